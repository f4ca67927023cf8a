/- Lemmas, walks and contracts by which the statement is proved. -/
import Derived.Test.YtmgahjkopiaglaaGreatK27
import Derived.Deep.MidRow
import Derived.Laws.Tables
set_option maxRecDepth 100000
set_option maxHeartbeats 16000000
set_option linter.all false
namespace Go.Proofs.YtmgahjkopiaglaaGreat
open Go.RowKit Go.Proofs.Tryz
def EW(S:Nat->Prop)(lo:Nat)(w:World):Nat->Prop:=λb=>S b\/(lo<=b/\b<w.1.size)
structure SO(w:World)(S:Nat->Prop)(x:Wk)(s:WA):Prop where
 fx:SG w S x s
 ou:ay Y.Z false w S (gW x s) x.Z
def lr(lo bw:Nat)(S:Nat->Prop)(a:Ap)(l:Int)(f:Fr)(w:World)(av:Except Int Wk)(y:Ending)(w':World):Prop:=
 Kept lo bw w w'/\match av with
  | .error e=>y=.panicked [te e false]
  | .ok x=>y=.returned (.tuple #[])/\∃t,G w' bw (lA a x l f t) 183/\SO w' (EW S lo w') x t
theorem eW.end_{w:World}{lo bw:Nat}{S:Nat->Prop}{a:Ap}{x:Wk}{f:Fr}{s:WA}(h:eW w lo bw S a x f s):SO w (EW S lo w) x s:=
 ⟨h.fx.move (λ_ _=>rfl) λb q=>q.imp id λq=>⟨q.1,q.2.1⟩,h.row.on (λb q=>q.imp id λq=>⟨q.1,q.2.1⟩) λb q=> .inr ⟨(h.KV q).1,(h.KV q).2.1⟩⟩
theorem fv.end_{lo bw:Nat}{S:Nat->Prop}{a:Ap}{l:Int}{f:Fr}{w w':World}{av:Except Int Wk}{y:Ending}(h:fv lo bw S a l f w av y w'):lr lo bw S a l f w av y w':=by
 obtain⟨F,R⟩:=h;refine⟨F,?_⟩;cases av with
 |error e=>exact R
 |ok x=>obtain⟨h3,t,h4,h5⟩:=R;exact⟨h3,t,h4,h5.end_⟩
theorem SP(lo bw:Nat)(S:Nat->Prop)(a:Ap)(x:Wk)(l:Int)(f:Fr)(s:WA)(ln k:Nat)(w:World)(H:eW w lo bw S a x f s)(bk:G w bw (lA a x l f s) 183)(hl:l=(ln:Int))(Rx:f.init=(k:Int))(hL:a.az.length<=1000)(hlen:x.x.h.bD.length=(Gr.ins a.az x.x.h.node).length)(Eh:x.x.h.Z.length=(Gr.outs a.az x.x.h.node).length)(hw:(Tb.at_ a.T x.x.h.node x.x.h.state).waits.length<=1000)(rK:x.x.seen.length<=1000)(Q:k<=1000)(Ud:f.path.length<=1000):
 Calls prog 113 #[.pointer bw] w λy w'=>lr lo bw S a l f w (V.mG a l f x) y w':=by
 unfold lA at bk;have hK:=Kept.refl lo bw w;have bY:=H.lt;have fM:=H.sz;subst hl;rw[Rx] at bk;have hfe:(⟨f.kind,f.aC,f.seq,f.bB,f.pieces,(k:Int),f.num,f.count,f.path⟩:Fr)=f:=by rw[<-Rx]
 obtain⟨⟨r1,r2,r3⟩,hr⟩:∃r,V.nB a x.x.h x.x.seen (ln:Int) f=r:=⟨_,rfl⟩;have hR:V.mG a (ln:Int) f x=.ok {x with x:={x.x with seen:=r1},Z:=r2,pC:=r3}:=by unfold V.mG;rw[hr]
 rw[hR];have jb:∀b,(gW x s).ownBlock=some b->b<w.1.size:=λb q=>(H.row.lt b q).2;change aK _ at Rx hfe hr hlen Eh;clear hR;go_in;have O:=ch bk;go_upto_region 0 with fail
 clear O;refine rg 33554432 λW1 I K=>?_;replace hK:=hK.next I H.sz;refine lW I bk H ?_;clear I bk H;intro z1 bk H;refine tS 0 ?_;refine tS 1 ?_;refine tS 2 ?_;refine tS 3 ?_;refine tS 4 ?_;refine tS 5 ?_;refine tS 7 ?_;refine tS 8 ?_;refine tS 9 ?_;refine tS 10 ?_;refine tS 12 ?_;refine tS 13 ?_;refine tS 14 ?_;refine tS 15 ?_;refine tS 17 ?_;refine tK 18 ?_;refine aG [21] 24 ?_;go_wp2;refine tJ 22 ?_;have O:=ch bk;refine aG [6,11,16,19,20,23,24] 16 ?_;go_wp2;clear O;refine oJ 25 ?_;go_wp2_with fail;have Es:=(WA.frS H.fr).2;refine(Nq _ _ a x.x.h x.x.seen s.BY s.Ca ln k f.kind f.aC f.seq f.bB f.num f.count f.pieces f.path s.CR s.CS s.CT s.CU _ (WS S lo W1 (gW x s)) H.hS H.apW H.fx.ho H.fx.se (Es.aF λb q=> .inl q) hL hlen.Z Eh.Z hw rK Q Ud).mono ?_;rintro e w2 ⟨⟨v1,v2,v3,rfl,F,R,h3⟩,I⟩;replace hK:=hK.next I H.sz;refine iX I bk H K ?_;clear I bk H K;intro z2 bk H K;rw[hfe.Z,hr.Z] at F R h3;dsimp only at F R h3;obtain⟨C1,c1,rfl,_⟩:=id F;obtain⟨C2,c2,rfl,_⟩:=id R;obtain⟨C3,c3,rfl,_⟩:=id h3;clear Es;replace F:=F.aF (S':=EW S lo w2) λb q=>q.elim (λq=>q.imp id λq=>⟨q.1,by have:=q.2.1;omega⟩) λq=> .inr ⟨by have:=q.1;omega,q.2⟩;replace R:=R.aF (S':=EW S lo w2) λb q=> .inr ⟨by have:=bO.lo q;omega,bO.hi q⟩;replace h3:=h3.aF (S':=EW S lo w2) λb q=> .inr ⟨by have:=bO.lo q;omega,bO.hi q⟩;replace F:=U F;replace R:=U R;replace h3:=U h3;go_wp2;refine⟨λ_=>K,?_⟩;refine aG [26,27] 13 ?_;go_wp2;refine tJ 30 ?_;refine aG [31,32] 10 ?_;go_wp2;refine sJ 28 ?_;refine tK 29 ?_;have O:=ch bk;refine aG [33,34,35,36,37,38,39,40] 0 ?_;go_wp2;refine fX ?_;clear O;refine cd λW3 hW=>?_;have jo:bH bw w2 W3:=bH.eqv hW ((((bH.refl _ _).bd 31 _).bd 32 _).bd 34 _);replace bk:G W3 bw #[.int .i64 a.n,.slice s.gA a.az.length s.gk,.slice s.TA a.T.length s.Tk,.bool a.bF,.int .i64 x.x.h.node,.int .i64 x.x.h.state,.int .i64 x.x.h.steps,.slice s.xU x.x.h.bD.length s.qh,.slice s.xV x.x.h.Z.length s.iZ,.int .i64 x.x.m.aC,.slice s.BV x.x.m.fj.length s.BZ,.int .i64 x.x.m.p.node,.int .i64 x.x.m.p.state,.int .i64 x.x.m.p.steps,.slice s.zi x.x.m.p.aQ.length s.zv,.slice s.zj x.x.m.p.bD.length s.zF,.slice s.zm x.x.m.p.Z.length s.zG,.int .i64 x.x.u.aC,.int .i64 x.x.u.p.node,.int .i64 x.x.u.p.state,.int .i64 x.x.u.p.steps,.slice s.zo x.x.u.p.aQ.length s.zH,.slice s.zt x.x.u.p.bD.length s.zI,.slice s.zu x.x.u.p.Z.length s.zJ,.int .i64 x.x.t.aC,.int .i64 x.x.t.up,.int .i64 x.x.t.wait,.slice s.AF x.x.t.kids.length s.AG,.slice s.Dk x.x.jz.length s.Dl,.int .i64 x.x.heard,.int .i64 x.x.told,.slice C1 r1.length c1,.slice C2 r2.length c2,.slice s.En x.nC.length s.Eo,.slice C3 r3.length c3,.int .i64 (ln:Int),.int .i64 f.kind,.int .i64 f.aC,.int .i64 f.seq,.int .i64 f.bB,.slice s.CR f.pieces.length s.CT,.int .i64 (k:Int),.int .i64 f.num,.int .i64 f.count,.slice s.CS f.path.length s.CU] 183:=G.eqv hW (((bk.cC 31 _).cC 32 _).cC 34 _);clear hW;clear K;replace hK:=hK.only jo;have my:=H;replace H:=H.only jo;refine eN ?_;go_wp2;go_end0;have hew:∀b,EW S lo w2 b->b≠bw:=λb q=>q.elim (λq=>(my.s0 b q).2) λq=>by omega
 have UC:∀b,EW S lo w2 b->EW S lo W3 b:=λb q=>q.imp id λq=>⟨q.1,by rw[jo.size];exact q.2⟩;have hF:=(my.end_.fx.move (w':=W3) (λb q=>jo.block b (hew b q)) UC);have bk9:G W3 bw (lA a {x with x:={x.x with seen:=r1},Z:=r2,pC:=r3} (ln:Int) f {s with BY:=C1,Ca:=c1,s7:=C2,ta:=c2,FM:=C3,FN:=c3}) 183:=by unfold lA;rw[Rx.Z];exact bk
 have kp:∀ {α:Type} {r:Y α} {v:Value} {xs:List α},ay r false w2 (EW S lo w2) v xs->ay r false W3 (EW S lo W3) v xs:=λh=>(h.aE λb q=>jo.block b (hew b q)).aF UC;exact⟨hK,rfl,_,bk9,⟨hF.ho,hF.mr,hF.hu,hF.tr,hF.go,kp F.Z,hF.ep,kp h3.Z⟩,kp R.Z⟩
def V.pE(a:Ap)(x:Wk)(l:Int)(f:Fr):Except Int Wk:=
 if 0<=V.Ug a x l/\Fr.right f=true then
  if f.kind=0 then V.uB a l f x else
  if f.kind=1\/f.kind=2 then V.j4 a l f x else
  if f.kind=3\/f.kind=4 then V.lQ a l f x else
  if f.kind=5 then V.kE a l f x else V.mG a l f x
 else .error 1
structure QA(a:Ap)(x:Wk)(ln:Nat)(f:Fr):Prop where
 lt_:ln<a.az.length
 L:a.az.length<=1000
 len:x.x.h.bD.length=(Gr.ins a.az x.x.h.node).length
 adz:x.x.h.Z.length=(Gr.outs a.az x.x.h.node).length
 s:x.x.h.sized
 row:∀r∈x.x.h.bD,r.length<=999999/\zd r
 st:0<=x.x.h.steps/\x.x.h.steps<=1000000
 mp:Pc.sized x.x.m.p
 mo:x.x.m.fj.length<=1000
 mi:x.x.m.fj.length<=x.x.m.p.bD.length
 bD:x.x.h.bD.length<=1000
 n:x.Z.length+a.az.length<=900
 me:1<=f.aC->x.x.m.aC=f.aC->x.x.m.fj.length=x.x.h.bD.length
 g:x.x.jz.length<=12
 z:∀p∈x.x.jz,Pc.sized p
 z2:Pc.sized (V.jJ a x.x)
 z3:Pc.sized (V.jJ a (V.vM a x ln f.aC).x)
 k:x.x.t.kids.length<=1000
 wt:-1000000<=x.x.t.wait/\x.x.t.wait<=1000000
 h:0<=x.x.heard/\x.x.heard<=1000000
 w:(Tb.at_ a.T x.x.h.node x.x.h.state).waits.length<=1000
 sl:x.x.seen.length<=1000
theorem Pc.Iu{p:Pc.bG}(h:Pc.right p=true):Pc.sized p:=by
 unfold Pc.right Pc.sj at h;simp only[cQ,dC,eT] at h;refine⟨by omega,by omega,by omega,λx D=>?_,λx D=>?_⟩
 ·have:=Pc.uM x 0 (h.2.2.1 x D) (by omega);omega
 ·have:=h.2.2.2 x D;unfold Pc.wu at this;rw[cQ,dC] at this;omega
theorem FU{f:Fr}(h:Fr.right f=true):Fr.Jz f=true:=by
 unfold Fr.right at h;simp only[cQ,dC] at h;exact h.2.2
theorem FW{f:Fr}(h:Fr.right f=true):0<=f.kind/\f.kind<=6:=by
 unfold Fr.right Pc.within at h;simp only[cQ,dC] at h;exact h.1
theorem FX{f:Fr}(h:Fr.right f=true)(Q:f.kind=5):0<f.pieces.length/\f.pieces.length<=6/\∀p∈f.pieces,Pc.sized p:=by
 have:=FU h;unfold Fr.Jz at this;rw[aO (by omega),aS Q] at this;unfold Fr.report Pc.within at this;simp only[cQ,dC,eT] at this;exact⟨by omega,by omega,λp hp=>Pc.Iu (this.2.2 p hp)⟩
theorem Et{f:Fr}(h:Fr.right f=true)(Q:f.kind=1\/f.kind=2):1<=f.aC:=by
 have:=FU h;unfold Fr.Jz at this;rw[aO (by omega),aO (by omega),aO (by omega)] at this;unfold Fr.control Pc.within at this;exact(eM this).1
theorem yI{f:Fr}(h:Fr.right f=true)(Q:f.kind=6):(∃k:Nat,f.init=k/\k<=5)/\f.path.length<=6:=by
 have:=FU h;unfold Fr.Jz at this;rw[aO (by omega),aO (by omega),aS Q] at this;unfold Fr.yh Pc.within at this;simp only[cQ,dC] at this;exact⟨⟨f.init.toNat,by omega,by omega⟩,by omega⟩
section
variable{lo bw:Nat}{S:Nat->Prop}{a:Ap}{l:Int}{f:Fr}{w w1 w':World}{av R':Except Int Wk}{y:Ending}
theorem lr.Cj(hR:av=R')(hK:Kept lo bw w w1)(h:lr lo bw S a l f w1 R' y w'):lr lo bw S a l f w av y w':=by
 subst hR;exact⟨hK.trans h.1,h.2⟩
theorem lr.err{e:Int}(hR:av=.error e)(hK:Kept lo bw w w'):lr lo bw S a l f w av (.panicked [te e false]) w':=⟨hK,by rw[hR]⟩
theorem lr.vw(h:lr lo bw S a l f w av y w'):(∃e,av=.error e/\y=.panicked [te e false])\/(∃x,av=.ok x/\y=.returned (.tuple #[])):=by
 obtain⟨_,h⟩:=h;cases av with
 |error e=>exact .inl ⟨e,rfl,h⟩
 |ok x=>exact .inr ⟨x,rfl,h.1⟩
end
theorem Zd(lo bw:Nat)(S:Nat->Prop)(a:Ap)(x:Wk)(l:Int)(f:Fr)(s:WA)(ln:Nat)(w:World)(H:eW w lo bw S a x f s)(bk:G w bw (lA a x l f s) 183)(hl:l=(ln:Int))(hP:QA a x ln f):
 Calls prog 82 #[.pointer bw] w λy w'=>lr lo bw S a l f w (V.pE a x l f) y w':=by
 unfold lA at bk;have hK:=Kept.refl lo bw w;have bY:=H.lt;have fM:=H.sz;subst hl;have hL:=hP.L;obtain⟨av,hR⟩:=cJ (V.pE a x (ln:Int) f);rw[hR];unfold V.pE at hR;obtain⟨pv,hpv⟩:=cJ (V.Ug a x (ln:Int));obtain⟨fr,Gy⟩:=cJ (Fr.right f);rw[hpv,Gy] at hR;have QB:V.place (Gr.ins a.az x.x.h.node) (ln:Int)=pv:=hpv;have Ze:=@FW f;rw[Gy] at Ze;replace hP:=U hP;change aK _ at hR hpv QB Gy;replace Ze:=U Ze;go_in;go_wp2_with fail;refine(K5 lo bw S a x (ln:Int) f s _ H bk hL).mono ?_;rintro e w1 ⟨rfl,I⟩;replace hK:=hK.next I H.sz;refine lW I bk H ?_;clear I bk H;intro z1 bk H;rw[QB.Z];by_cases q0:0<=pv
 case neg=>
  have b0:decide (pv>=0)=false:=bZ (by omega);have HN:aK (av=.error 1):=U (by rw[<-hR.Z];exact aO (λh=>q0 h.1));have O:=ch bk;go_wp2_with fail;refine(mI 1 _).mono ?_;rintro e w9 ⟨rfl,rfl⟩;go_wp2;exact⟨rfl,lr.err HN.Z hK⟩
 have b0:decide (pv>=0)=true:=cV (by omega);replace q0:=U q0;have O:=ch bk;go_wp2_with fail;have Zf:=WA.frS H.fr;refine(sI _ f _ (show iO false w1 0 w1.1.size (L9 s f) f from⟨_,_,_,_,rfl,Zf.1.aF λb q=>⟨fH _,H.h0 b q⟩,Zf.2.aF λb q=>⟨fH _,H.h0 b q⟩⟩)).mono ?_;clear O;rintro e w2 ⟨rfl,I⟩;replace hK:=hK.next I H.sz;refine lW I bk H ?_;clear I bk H;intro z2 bk H;rw[Gy.Z];clear Zf;cases fr
 case false=>
  have HN:aK (av=.error 1):=U (by rw[<-hR.Z];exact aO (λh=>by cases h.2));have O:=ch bk;go_wp2_with fail;refine(mI 1 _).mono ?_;rintro e w9 ⟨rfl,rfl⟩;go_wp2;exact⟨rfl,lr.err HN.Z hK⟩
 have O:=ch bk;go_wp2_with fail;refine(tf 1 _).mono ?_;clear O;rintro e w3 ⟨rfl,I⟩;replace hK:=hK.next I H.sz;refine lW I bk H ?_;clear I bk H;intro z3 bk H;have HM:aK (av=if f.kind=0 then V.uB a ln f x else if f.kind=1\/f.kind=2 then V.j4 a ln f x else if f.kind=3\/f.kind=4 then V.lQ a ln f x else if f.kind=5 then V.kE a ln f x else V.mG a ln f x):=U (by rw[<-hR.Z];exact aS ⟨q0.Z,by trivial⟩);have H6:=Ze.Z (by trivial);clear hR Ze b0;have O:=ch bk;go_upto_region 2 with fail
 clear O;refine nw λW4 ba I=>?_;have y4:=ba.lt;replace hK:=hK.next I H.sz;refine lW I bk H ?_;clear I bk H;intro z4 bk H;have AK:f.kind=0\/f.kind=1\/f.kind=2\/f.kind=3\/f.kind=4\/f.kind=5\/f.kind=6:=by omega
 clear H6;rcases AK with ki|AK
 ·
  have HN:aK (av=V.uB a ln f x):=U (by rw[HM.Z];exact aS ki);have PL:0<=V.place (Gr.ins a.az x.x.h.node) (ln:Int):=by rw[QB.Z];exact q0.Z
  have O:=eE bk ba;go_wp2_with fail;replace ki:=U ki;clear O;refine(adv lo bw S a x (ln:Int) f s ln _ H bk rfl hP.lt_ hP.L hP.len hP.s hP.row hP.st PL hP.mp hP.mo hP.mi).mono ?_;rintro y w9 hq;have kr:=hq.end_;have ue:=lr.Cj HN.Z hK kr;rcases kr.vw with⟨e,_,rfl⟩|⟨x9,_,rfl⟩
  ·go_wp2;exact⟨rfl,ue⟩
  ·go_wp2;go_end0;exact ue
 rcases AK with ki|AK
 ·
  have HN:aK (av=V.j4 a ln f x):=U (by rw[HM.Z];exact(aO (by omega)).trans (aS (by omega)));have PL:0<=V.place (Gr.ins a.az x.x.h.node) (ln:Int):=by rw[QB.Z];exact q0.Z
  have EP:=Et Gy.Z (by omega);have O:=eE bk ba;go_wp2_with fail;replace ki:=U ki;clear O;refine(It lo bw S a x (ln:Int) f s _ H bk hP.L hP.n hP.len hP.s hP.bD PL hP.mp (hP.me EP) (by have:=hP.g;omega) hP.z hP.z3).mono ?_;rintro y w9 hq;have kr:=hq.end_;have ue:=lr.Cj HN.Z hK kr;rcases kr.vw with⟨e,_,rfl⟩|⟨x9,_,rfl⟩
  ·go_wp2;exact⟨rfl,ue⟩
  ·go_wp2;go_end0;exact ue
 rcases AK with ki|AK
 ·
  have HN:aK (av=V.j4 a ln f x):=U (by rw[HM.Z];exact(aO (by omega)).trans (aS (by omega)));have PL:0<=V.place (Gr.ins a.az x.x.h.node) (ln:Int):=by rw[QB.Z];exact q0.Z
  have EP:=Et Gy.Z (by omega);have O:=eE bk ba;go_wp2_with fail;replace ki:=U ki;clear O;refine(It lo bw S a x (ln:Int) f s _ H bk hP.L hP.n hP.len hP.s hP.bD PL hP.mp (hP.me EP) (by have:=hP.g;omega) hP.z hP.z3).mono ?_;rintro y w9 hq;have kr:=hq.end_;have ue:=lr.Cj HN.Z hK kr;rcases kr.vw with⟨e,_,rfl⟩|⟨x9,_,rfl⟩
  ·go_wp2;exact⟨rfl,ue⟩
  ·go_wp2;go_end0;exact ue
 rcases AK with ki|AK
 ·
  have HN:aK (av=V.lQ a ln f x):=U (by rw[HM.Z];exact(aO (by omega)).trans ((aO (by omega)).trans (aS (by omega))));have O:=eE bk ba;go_wp2_with fail;replace ki:=U ki;clear O;refine(Ip lo bw S a x (ln:Int) f s _ H bk hP.L (by have:=hP.n;omega) (by have:=hP.g;omega) hP.z hP.z2 hP.k hP.wt).mono ?_;rintro y w9 hq;have kr:=hq.end_;have ue:=lr.Cj HN.Z hK kr;rcases kr.vw with⟨e,_,rfl⟩|⟨x9,_,rfl⟩
  ·go_wp2;exact⟨rfl,ue⟩
  ·go_wp2;go_end0;exact ue
 rcases AK with ki|AK
 ·
  have HN:aK (av=V.lQ a ln f x):=U (by rw[HM.Z];exact(aO (by omega)).trans ((aO (by omega)).trans (aS (by omega))));have O:=eE bk ba;go_wp2_with fail;replace ki:=U ki;clear O;refine(Ip lo bw S a x (ln:Int) f s _ H bk hP.L (by have:=hP.n;omega) (by have:=hP.g;omega) hP.z hP.z2 hP.k hP.wt).mono ?_;rintro y w9 hq;have kr:=hq.end_;have ue:=lr.Cj HN.Z hK kr;rcases kr.vw with⟨e,_,rfl⟩|⟨x9,_,rfl⟩
  ·go_wp2;exact⟨rfl,ue⟩
  ·go_wp2;go_end0;exact ue
 rcases AK with ki|AK
 ·
  have HN:aK (av=V.kE a ln f x):=U (by rw[HM.Z];exact(aO (by omega)).trans ((aO (by omega)).trans ((aO (by omega)).trans (aS (by omega)))));have RP:=FX Gy.Z ki;have O:=eE bk ba;go_wp2_with fail;replace ki:=U ki;clear O;refine(NJ lo bw S a x (ln:Int) f s _ H bk hP.L (by have:=hP.n;omega) (by have:=hP.g;have:=RP.2.1;omega) hP.z RP.2.2 hP.z2 RP.1 hP.h).mono ?_;rintro y w9 hq;have kr:=hq.end_;have ue:=lr.Cj HN.Z hK kr;rcases kr.vw with⟨e,_,rfl⟩|⟨x9,_,rfl⟩
  ·go_wp2;exact⟨rfl,ue⟩
  ·go_wp2;go_end0;exact ue
 have ki:=AK;clear AK;have HN:aK (av=V.mG a ln f x):=U (by rw[HM.Z];exact(aO (by omega)).trans ((aO (by omega)).trans ((aO (by omega)).trans (aO (by omega)))));have RP:=yI Gy.Z ki;obtain⟨⟨PK,AD,hpk5⟩,XR⟩:=RP;replace AD:=U AD;have O:=eE bk ba;go_wp2_with fail;replace ki:=U ki;clear O;refine(SP lo bw S a x (ln:Int) f s ln PK _ H bk rfl AD.Z hP.L hP.len hP.adz hP.w hP.sl (by omega) (by omega)).mono ?_;rintro y w9 hq;have kr:=hq;have ue:=lr.Cj HN.Z hK kr;rcases kr.vw with⟨e,_,rfl⟩|⟨x9,_,rfl⟩
 ·go_wp2;exact⟨rfl,ue⟩
 ·go_wp2;go_end0;exact ue
theorem Ck(va:Value)(a:Ap)(x:Nd)(s:WA)(num:Int)(w:World)(S:Nat->Prop)(hS:∀b,S b->b<w.1.size)(ha:da Y.ap w S va a)(D:da Y.ho w S (hoV s x.h) x.h)(hL:a.az.length<=1000)(hlen:x.h.bD.length=(Gr.ins a.az x.h.node).length)(hw:(Tb.at_ a.T x.h.node x.h.state).waits.length<=1000):
 Calls prog 58 #[va,.agg #[x.h.node,x.h.state,x.h.steps,.slice s.xU x.h.bD.length s.qh,.slice s.xV x.h.Z.length s.iZ,x.m.aC,.slice s.BV x.m.fj.length s.BZ,x.m.p.node,x.m.p.state,x.m.p.steps,.slice s.zi x.m.p.aQ.length s.zv,.slice s.zj x.m.p.bD.length s.zF,.slice s.zm x.m.p.Z.length s.zG,x.u.aC,x.u.p.node,x.u.p.state,x.u.p.steps,.slice s.zo x.u.p.aQ.length s.zH,.slice s.zt x.u.p.bD.length s.zI,.slice s.zu x.u.p.Z.length s.zJ,x.t.aC,x.t.up,x.t.wait,.slice s.AF x.t.kids.length s.AG,.slice s.Dk x.jz.length s.Dl,x.heard,x.told,.slice s.BY x.seen.length s.Ca],num] w λy w'=>(∃u,y=.returned (.tuple #[u,.int .i64 (V.fD a x.h num).1])/\ay Y.Z false w' (bO w.1.size w'.1.size) u (V.fD a x.h num).2)/\aY w w':=by
 obtain⟨nD,mU,mV,mm,rfl,kX,lM⟩:=ha.ap;change aK _ at hlen;have jr:(Value.agg #[x.h.node,x.h.state,x.h.steps,.slice s.xU x.h.bD.length s.qh,.slice s.xV x.h.Z.length s.iZ,x.m.aC,.slice s.BV x.m.fj.length s.BZ,x.m.p.node,x.m.p.state,x.m.p.steps,.slice s.zi x.m.p.aQ.length s.zv,.slice s.zj x.m.p.bD.length s.zF,.slice s.zm x.m.p.Z.length s.zG,x.u.aC,x.u.p.node,x.u.p.state,x.u.p.steps,.slice s.zo x.u.p.aQ.length s.zH,.slice s.zt x.u.p.bD.length s.zI,.slice s.zu x.u.p.Z.length s.zJ,x.t.aC,x.t.up,x.t.wait,.slice s.AF x.t.kids.length s.AG,.slice s.Dk x.jz.length s.Dl,x.heard,x.told,.slice s.BY x.seen.length s.Ca]).cells=#[.int .i64 x.h.node,.int .i64 x.h.state,.int .i64 x.h.steps,.slice s.xU x.h.bD.length s.qh,.slice s.xV x.h.Z.length s.iZ,.int .i64 x.m.aC,.slice s.BV x.m.fj.length s.BZ,.int .i64 x.m.p.node,.int .i64 x.m.p.state,.int .i64 x.m.p.steps,.slice s.zi x.m.p.aQ.length s.zv,.slice s.zj x.m.p.bD.length s.zF,.slice s.zm x.m.p.Z.length s.zG,.int .i64 x.u.aC,.int .i64 x.u.p.node,.int .i64 x.u.p.state,.int .i64 x.u.p.steps,.slice s.zo x.u.p.aQ.length s.zH,.slice s.zt x.u.p.bD.length s.zI,.slice s.zu x.u.p.Z.length s.zJ,.int .i64 x.t.aC,.int .i64 x.t.up,.int .i64 x.t.wait,.slice s.AF x.t.kids.length s.AG,.slice s.Dk x.jz.length s.Dl,.int .i64 x.heard,.int .i64 x.told,.slice s.BY x.seen.length s.Ca]:=by rfl
 change aK _ at hS;go_in;go_upto_region 1 with fail
 refine r9 λW1 ba bn I=>?_;have uD:=bn.lt;have J:=I;have z1:=I.size;clear I;have O:=eE ba bn;go_wp2_with fail;refine(KJ _ _ a x.h num _ S (j2 hS J.size) (da.PY (kX.aE (dx hS J)) (lM.aE (dx hS J))) (D.aE (dx hS J)) hL hlen.Z hw).mono ?_;clear O;rintro e w2 ⟨⟨u,rfl,hu⟩,I⟩;refine iX I ba bn J ?_;clear I ba bn J;intro z2 ba bn J;obtain⟨⟨r1,r2⟩,hr⟩:∃r,V.fD a x.h num=r:=⟨_,rfl⟩;rw[hr] at hu⊢;dsimp only at hu⊢;obtain⟨uA,uk,rfl,_⟩:=id hu;replace hu:=U hu;change aK _ at hr;have zq:=J.size;have O:=eE ba bn;go_wp2;go_ret2;exact⟨⟨_,by rw[hr.Z];rfl,by rw[hr.Z];exact hu.aF λb q=>⟨by have:=bO.lo q;omega,bO.hi q⟩⟩,J⟩
section
variable{P:Program}{w:World}{g:Nat}{cs:Array Value}{T:TypeId}
theorem G.there(h:G w g cs T):w.there g 0 cs.size:=λj hj=>by
 rw[iR];exact⟨by rw[aD h j,Array.getElem?_eq_getElem hj];rfl,h.mO j⟩
theorem aH(g:Nat):∀(l:List Value)(o:Nat)(w:World),w.setCells g o l=cz w g o l
 |[],_,_=>rfl
 |v::l,o,w=>aH g l (o+1) _
theorem iL{fn:Func}{p:Tmp}{ty:TypeId}(h:fn.results=#[.cell p ty]){tmps:Array Value}{P:Program}{w:World}{a:Addr}(hp:tmps.getD p undef=.pointer (some a)):
 (results fn tmps).run P w=(loadVar ty a).run P w:=by
 have OA:tmps[p]?.getD undef=.pointer (some a):=by simpa using hp
 have e:asAddr (tmps[p]?.getD undef)=pure a:=by rw[OA];rfl
 simp only[results,h];simp[e,iI,Result.andThen]
theorem G.cm(h:G w g cs T)(cells:Array Value)(hn:cells.size=cs.size):G (cz w g 0 cells.toList) g cells T:=by
 have:=xL (b:=g) (T:=T) cells.toList [] cs.toList w (by simpa using h) (by simpa using hn.symm);simpa using this
theorem G.ju(h:G w g cs T)(ty:TypeId)(d:TypeDesc)(hu:P.underlying ty=some d)(hd:d.isRow=true)(hi:(P.info? ty).map (·.size)=some cs.size):(loadVar ty ⟨g,0,none⟩).run P w=.ok (.agg cs) w:=by
 have:=run_loadVar_mid (P:=P) w g 0 ty cs.toList d (λj v hj=>by rw[iR,aD h j];simpa using hj) hu hd (by simpa using hi);simpa using this
end
theorem QC(va:Value)(a:Ap)(k:Nat)(w:World)(S:Nat->Prop)(hS:∀b,S b->b<w.1.size)(ha:da Y.ap w S va a)(hL:a.az.length<=1000)(Q:(k:Int)<a.n)(hT:(a.T.length:Int)=a.n):
 Calls prog 32 #[va,(k:Int)] w λy w'=>(∃u,y=.returned u/\da Y.nd w' (bO w.1.size w'.1.size) u (V.rM a k))/\aY w w':=by
 obtain⟨nD,mU,mV,mm,rfl,kX,lM⟩:=ha.ap;change aK _ at hT hS;go_in;go_upto_region 1 with fail
 refine r9 λW1 ba br I=>?_;have uD:=br.lt;have J:=I;have z1:=I.size;clear I;have O:=eE ba br;go_wp2_with fail;refine(P0 _ a k _ S (j2 hS J.size) (da.PY (kX.aE (dx hS J)) (lM.aE (dx hS J))) hL Q hT.Z).mono ?_;clear O;rintro e w2 ⟨⟨v,rfl,hv⟩,I⟩;refine iX I ba br J ?_;clear I ba br J;intro z2 ba br J;obtain⟨h,hh⟩:=cJ (V.Ku a k);rw[hh] at hv;change aK _ at hh;obtain⟨B0,B1,c0,c1,rfl,h0,F⟩:=hv.ho;clear hv;have zq:=J.size;have rZ:=λW=>lG (P:=prog) W 121 #[(0,.agg #[h.node,h.state,h.steps,.slice B0 h.bD.length c0,.slice B1 h.Z.length c1])] #[h.node,h.state,h.steps,.slice B0 h.bD.length c0,.slice B1 h.Z.length c1,aP,(),aP,aP,aP,(),(),(),aP,aP,aP,aP,(),(),(),aP,aP,aP,(),(),aP,aP,()] (by kernel_rfl);have O:=ch ba;go_wp2_with (refine wpList_store_mid rfl 121 (.tmp 4) (.tmp 8) rfl (w.1.size+1) 0 #[h.node,h.state,h.steps,.slice B0 h.bD.length c0,.slice B1 h.Z.length c1,aP,(),aP,aP,aP,(),(),(),aP,aP,aP,aP,(),(),(),aP,aP,aP,(),(),aP,aP,()] rfl rfl br.there (by kernel_rfl) (by simp[Value.oneCell']) ?_;rw[aH]);have Y6:G (cz w2 (w.1.size+1) 0 [h.node,h.state,h.steps,.slice B0 h.bD.length c0,.slice B1 h.Z.length c1,aP,(),aP,aP,aP,(),(),(),aP,aP,aP,aP,(),(),(),aP,aP,aP,(),(),aP,aP,()]) (w.1.size+1) #[h.node,h.state,h.steps,.slice B0 h.bD.length c0,.slice B1 h.Z.length c1,aP,(),aP,aP,aP,(),(),(),aP,aP,aP,aP,(),(),(),aP,aP,aP,(),(),aP,aP,()] 121:=br.cm #[h.node,h.state,h.steps,.slice B0 h.bD.length c0,.slice B1 h.Z.length c1,aP,(),aP,aP,aP,(),(),(),aP,aP,aP,aP,(),(),(),aP,aP,aP,(),(),aP,aP,()] (by rfl);have hld:=Y6.ju (P:=prog) 121 _ underlying121 rfl (by kernel_rfl);have hP:=aI (b:=w.1.size+1) (show w.1.size<=w.1.size+1 by omega) [h.node,h.state,h.steps,.slice B0 h.bD.length c0,.slice B1 h.Z.length c1,aP,(),aP,aP,aP,(),(),(),aP,aP,aP,aP,(),(),(),aP,aP,aP,(),(),aP,aP,()] 0 _ J;refine bL (v:=.agg #[h.node,h.state,h.steps,.slice B0 h.bD.length c0,.slice B1 h.Z.length c1,aP,(),aP,aP,aP,(),(),(),aP,aP,aP,aP,(),(),(),aP,aP,aP,(),(),aP,aP,()]) ((iL results32 rfl).trans hld) rfl ?_;refine⟨⟨_,rfl,?_⟩,hP⟩;have he:V.rM a k=⟨h,⟨0,[],V.jV⟩,⟨0,V.jV⟩,⟨0,0,0,[]⟩,[],0,0,[]⟩:=by unfold V.rM;rw[hh.Z]
 rw[he];exact da.nd_ (p:=⟨h,⟨0,[],V.jV⟩,⟨0,V.jV⟩,⟨0,0,0,[]⟩,[],0,0,[]⟩) (h0.fin (lo:=w.1.size) (g:=w.1.size+1) (by omega) (by omega) (by omega) [h.node,h.state,h.steps,.slice B0 h.bD.length c0,.slice B1 h.Z.length c1,aP,(),aP,aP,aP,(),(),(),aP,aP,aP,aP,(),(),(),aP,aP,aP,(),(),aP,aP,()]) (F.fin (lo:=w.1.size) (g:=w.1.size+1) (by omega) (by omega) (by omega) [h.node,h.state,h.steps,.slice B0 h.bD.length c0,.slice B1 h.Z.length c1,aP,(),aP,aP,aP,(),(),(),aP,aP,aP,aP,(),(),(),aP,aP,aP,(),(),aP,aP,()]) ay.none_ ay.none_ ay.none_ ay.none_ ay.none_ ay.none_ ay.none_ ay.none_ ay.none_ ay.none_
theorem FY(e:Int)(w:World):(Instr.typeAssert (.iface 221 (.agg #[e])) 20 221 true).run prog w=.ok (.tuple #[.agg #[e],true]) w:=by kernel_rfl
theorem Iv(w:World):(Instr.typeAssert .nilIface 20 221 true).run prog w=.ok (.tuple #[.agg #[aP],false]) w:=by kernel_rfl
theorem Iw(p q r s:Option Addr)(w:World):
 CallsD prog 106 #[.pointer p,.pointer q,.pointer r,.pointer s] .returning w λy u' w'=>y=.returned (.tuple #[])/\u'=.returning/\w'=w.alloc (.cells #[aP] 221):=by
 have ha:=Iv;refine callsD_of_wpS func106 rfl λND cs hu=>?_;simp only[ntmps106,jN,fF,nj,Nat.reduceAdd,Nat.reduceSub,tx,
  xz,tE,tz,gh,nU]
 apply wpS_seq;apply wpS_region;simp[wpOpsS,go_sem,recoverD,hu,Exit.thenS,ha];refine wpS_of_wp ?_;go_wp2;exact⟨rfl,.returning,by cases ND;simp_all,_,by simp[results,results106],rfl,rfl,rfl⟩
def kF:Array Value:=#[.int .i64 0,.int .i64 0,.int .i64 0,.slice none 0 0,.slice none 0 0,.int .i64 0,.slice none 0 0,.int .i64 0,.int .i64 0,.int .i64 0,.slice none 0 0,.slice none 0 0,.slice none 0 0,.int .i64 0,.int .i64 0,.int .i64 0,.int .i64 0,.slice none 0 0,.slice none 0 0,.slice none 0 0,.int .i64 0,.int .i64 0,.int .i64 0,.slice none 0 0,.slice none 0 0,.int .i64 0,.int .i64 0,.slice none 0 0]
def Ix:Array Value:=#[.slice none 0 0,.slice none 0 0]
theorem yJ(w:World):(Instr.build 121 #[]).run prog w=.ok (.agg kF) w:=lG w _ _ _ (by kernel_rfl)
theorem NM(w:World):(Instr.build 157 #[]).run prog w=.ok (.agg Ix) w:=lG w _ _ _ (by kernel_rfl)
theorem ub:kF.all (·.oneCell')=true:=by simp[kF,Value.oneCell']
theorem Mg:Ix.all (·.oneCell')=true:=by simp[Ix,Value.oneCell']
structure DZ(g h i j k lo:Nat)(e f:Int)(w y:World):Prop where
 g:G y g kF 121
 h:G y h #[()] 144
 i:G y i Ix 157
 j:G y j #[f] 42
 k:G y k #[e] 221
 B:Below lo w y
section
variable{g h i j k lo:Nat}{e f:Int}{w y:World}
theorem DZ.ng(ar:DZ g h i j k lo e f w y)(F:g<h)(R:h<i)(h3:i<j)(h4:j<k)(hl:lo<=g):DZ g h i j k lo e f w (cz y g 0 kF.toList):=
 have aa:=aI (b:=g) (B:=g) bE kF.toList 0 _ (bI g y);have P:∀b,b≠g->∀ {cs T},G y b cs T->G (cz y g 0 kF.toList) b cs T:=λb I cs T q=>(bV I _ _ _).trans q
 ⟨ar.g.cm kF rfl,P _ (by omega) ar.h,P _ (by omega) ar.i,P _ (by omega) ar.j,P _ (by omega) ar.k,ar.B.trans (aa.mono hl)⟩
theorem DZ.ni(ar:DZ g h i j k lo e f w y)(F:g<h)(R:h<i)(h3:i<j)(h4:j<k)(hl:lo<=g):DZ g h i j k lo e f w (cz y i 0 Ix.toList):=
 have aa:=aI (b:=i) (B:=i) bE Ix.toList 0 _ (bI i y);have P:∀b,b≠i->∀ {cs T},G y b cs T->G (cz y i 0 Ix.toList) b cs T:=λb I cs T q=>(bV I _ _ _).trans q
 ⟨P _ (by omega) ar.g,P _ (by omega) ar.h,ar.i.cm Ix rfl,P _ (by omega) ar.j,P _ (by omega) ar.k,ar.B.trans (aa.mono (by omega))⟩
theorem DZ.nh(ar:DZ g h i j k lo e f w y)(F:g<h)(R:h<i)(h3:i<j)(h4:j<k)(hl:lo<=g):DZ g h i j k lo e f w (y.setCell ⟨h,0,none⟩ (.slice none 0 0)):=
 ⟨ar.g.dE (by omega) 0 _,ar.h.bd 0 _,ar.i.dE (by omega) 0 _,ar.j.dE (by omega) 0 _,ar.k.dE (by omega) 0 _,ar.B.setCell (by show lo<=h;omega) _⟩
end
theorem xX(g h i j:Nat)(e:Int)(Er:List PanicEntry)(w:World)(hg:G w g kF 121)(hh:G w h #[()] 144)(hi:G w i Ix 157)(hj:G w j #[aP] 42)(F:g<h)(R:h<i)(h3:i<j):
 CallsD prog 106 #[.pointer g,.pointer h,.pointer i,.pointer j] (.panicking (te e false::Er)) w λy u' w'=>
  y=.returned (.tuple #[])/\u'=.panicking (te e true::Er)/\DZ g h i j w.1.size g e e w w':=by
 have ha:=FY e;refine callsD_of_wpS func106 rfl λND cs hu=>?_;simp only[ntmps106,jN,fF,nj,Nat.reduceAdd,Nat.reduceSub,tx,
  xz,tE,tz,gh,nU]
 apply wpS_seq;apply wpS_region;simp[wpOpsS,go_sem,recoverD,hu,Exit.thenS,ha];refine wpS_of_wp ?_;go_upto_region 2 with fail
 refine nw λW1 bs I=>?_;have gl:=hg.lt;have hl:=hh.lt;have il:=hi.lt;have jl:=hj.lt;refine rgd 0 λW2 dO K=>?_;have J:aY w W2:=dW I dO;have ar:DZ g h i j w.1.size g e 0 w W2:=⟨hg.next J,hh.next J,hi.next J,hj.next J,bs.next dO,J.mono (by omega)⟩;clear K dO bs I hg hh hi hj J;have rZ:=yJ;have hbe:=NM;refine aG [0] 7 ?_;go_wp2;refine fX ?_;refine tk 1 (v:=.agg Ix) (by rfl:1|||2^1=3) ?_ (hy:=.inl ⟨by rfl,λw=>by go_simp;rfl⟩);refine tK 2 ?_;clear rZ hbe;refine qe λA0 gD=>?_;obtain⟨INV,iy⟩:∃au:Nat->Act->World->Prop,∀m A y,au m A y↔∃v:Value,A=A0.put (some 15) v/\(m.testBit 3=true->v=.int .i64 e)/\DZ g h i j w.1.size g e 0 w y:=⟨_,λ_ _ _=>Iff.rfl⟩;replace iy:=U iy;replace gD:=U gD;refine j3 [3,4,5,6] 127 INV (by kernel_rfl) (by kernel_rfl) ?_ 1 ?_ 4 7 _ _ (by kernel_rfl) ((iy _ _ _).2 ⟨undef,by rw[<-gD.Z];rfl,λq=>absurd q (by decide),ar⟩)
 ·refine aZ ?_ (aZ ?_ (aZ ?_ (aZ ?_ iA)));all_goals
   rintro m A y iK hd hi;obtain⟨v,ha,hv,ar⟩:=(iy _ _ _).1 hi;rw[ha,<-gD.Z];clear ha hd hi;replace hv:=U hv;simp only[di,dX,Act.put,eX,dK,dR]
  ·have O:=ch ar.k;go_wp2_with fail;clear O;try refine cD (λq=>absurd q (by decide)) ?_
   show INV (m|||2^3) _ _;exact(iy _ _ _).2 ⟨.int .i64 e,by rw[<-gD.Z];rfl,λ_=>rfl,ar⟩
  ·refine wpList_store_mid rfl 121 (.tmp 0) (.tmp 12) rfl g 0 kF rfl rfl ar.g.there (by kernel_rfl) ub ?_;rw[aH];go_wp2_with fail;try refine cD (λq=>absurd q (by decide)) ?_
   show INV (m|||2^4) _ _;exact(iy _ _ _).2 ⟨v,by rw[<-gD.Z];rfl,λq=>hv (by rwa[aW (i:=3) (j:=4) (by decide)] at q),ar.ng F R h3 (by omega) (by omega)⟩
  ·have O:=ch ar.h;go_wp2_with fail;clear O;try refine cD (λq=>absurd q (by decide)) ?_
   show INV (m|||2^5) _ _;exact(iy _ _ _).2 ⟨v,by rw[<-gD.Z];rfl,λq=>hv (by rwa[aW (i:=3) (j:=5) (by decide)] at q),ar.nh F R h3 (by omega) (by omega)⟩
  ·refine wpList_store_mid rfl 157 (.tmp 2) (.tmp 13) rfl i 0 Ix rfl rfl ar.i.there (by kernel_rfl) Mg ?_;rw[aH];go_wp2_with fail;try refine cD (λq=>absurd q (by decide)) ?_
   show INV (m|||2^6) _ _;exact(iy _ _ _).2 ⟨v,by rw[<-gD.Z];rfl,λq=>hv (by rwa[aW (i:=3) (j:=6) (by decide)] at q),ar.ni F R h3 (by omega) (by omega)⟩
 ·rintro A y hi;obtain⟨v,rfl,hv,ar⟩:=(iy _ _ _).1 hi;obtain rfl:=hv (by decide);rw[<-gD.Z];clear gD iy hi;simp only[Act.put,eX,dK,dR];have O:=ch ar.j;refine aG [7] 0 ?_;go_wp2;clear O;refine eJ ?_;go_wp2;have jk:j<w.1.size:=jl;exact⟨rfl,.panicking (te e true::Er),by cases ND;simp_all,_,by simp[results,results106],rfl,rfl,⟨ar.g.dE (by omega) 0 _,ar.h.dE (by omega) 0 _,ar.i.dE (by omega) 0 _,ar.j.bd 0 _,ar.k.dE (by omega) 0 _,ar.B.setCell (by show g<=j;omega) _⟩⟩
end Go.Proofs.YtmgahjkopiaglaaGreat
