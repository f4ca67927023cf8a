/- Lemmas, walks and contracts by which the statement is proved. -/
import Derived.Test.YtmgahjkopiaglaaGreatK40
set_option maxRecDepth 100000
set_option maxHeartbeats 16000000
set_option linter.all false
namespace Go.Proofs.YtmgahjkopiaglaaGreat
open Go.RowKit Go.Proofs.Tryz
def V.uq(a:Ap)(p:V.qz)(c:Int×Int×Int):Int×V.Rp×V.qz:=
 if c.1=0 then((V.gU a p.fJ c.2.1 c.2.2).1,V.UZ,{p with steps:=if (V.gU a p.fJ c.2.1 c.2.2).1=0 then p.steps++[⟨0,c.2.1,c.2.2,0,0⟩] else p.steps,fJ:=(V.gU a p.fJ c.2.1 c.2.2).2}) else
 if c.1=1 then((V.cS a p.fJ c.2.1 c.2.2).1,(V.cS a p.fJ c.2.1 c.2.2).2.1,{p with steps:=if (V.cS a p.fJ c.2.1 c.2.2).2.1.kind=1 then p.steps++[(V.cS a p.fJ c.2.1 c.2.2).2.1.step] else p.steps,fJ:=(V.cS a p.fJ c.2.1 c.2.2).2.2}) else
 if c.1=2 then((V.ed a p.fJ c.2.1).1,(V.ed a p.fJ c.2.1).2.1,{p with fJ:=(V.ed a p.fJ c.2.1).2.2}) else
 ((V.ft a p.fJ c.2.1).1,V.UZ,{p with fJ:=(V.ft a p.fJ c.2.1).2})
theorem Re(a:Ap)(p:V.qz)(c:Int×Int×Int):V.act a p c={(V.uq a p c).2.2 with jB:=p.jB++[(V.uq a p c).1],eY:=V.find p.eY (V.uq a p c).2.1}:=by
 unfold V.act V.uq;split
 ·rfl
 ·split
  ·rfl
  ·split<;>rfl
theorem Og(a:Ap)(p:V.qz)(c:Int×Int×Int):(V.uq a p c).2.2.jB=p.jB/\(V.uq a p c).2.2.eY=p.eY:=by
 unfold V.uq;split
 ·exact⟨rfl,rfl⟩
 ·split
  ·exact⟨rfl,rfl⟩
  ·split<;>exact⟨rfl,rfl⟩
theorem TB(a:Ap)(p:V.qz)(c:Int×Int×Int):(V.act a p c).jB.length=p.jB.length+1/\(V.act a p c).steps.length<=p.steps.length+1/\(V.act a p c).eY.length<=p.eY.length+1:=by
 have hf:∀r,(V.find p.eY r).length<=p.eY.length+1:=λr=>by unfold V.find;split<;>simp
 have hs:∀(q:Prop) [Decidable q] (x:St),(if q then p.steps++[x] else p.steps).length<=p.steps.length+1:=λq _ x=>by split<;>simp
 unfold V.act;split
 ·exact⟨by simp,hs _ _,by simp⟩
 ·split
  ·exact⟨by simp,hs _ _,hf _⟩
  ·split
   ·exact⟨by simp,by simp,hf _⟩
   ·exact⟨by simp,by simp,by simp⟩
theorem CD(a:Ap):∀(cI:List (Int×Int×Int))(p:V.qz),(cI.foldl (V.act a) p).jB.length=p.jB.length+cI.length/\(cI.foldl (V.act a) p).steps.length<=p.steps.length+cI.length/\(cI.foldl (V.act a) p).eY.length<=p.eY.length+cI.length
 |[],p=>⟨rfl,bE,bE⟩
 |x::cI,p=>by
  obtain⟨F,R,h3⟩:=CD a cI (V.act a p x);obtain⟨k1,k2,k3⟩:=TB a p x;rw[kK,fF];omega
def Ga(w:World)(a:Ap)(b:Nat)(cI:List (Int×Int×Int))(y:Ending)(w':World):Prop:=
 (V.iH a b cI≠0/\y=.returned (.tuple #[.agg #[(),(),(),(),(),()],.int .i64 (V.iH a b cI)]))\/
 (V.iH a b cI=0/\∃vE vS vF vC:Value,∃c0 c1 c2:Value,vC=.agg #[c0,c1,c2]/\y=.returned (.tuple #[.agg #[vE,vS,vF,c0,c1,c2],aP])/\
  ay Y.int false w' (bO w.1.size w'.1.size) vE (V.kW a (Rc.iz b) cI).jB/\ay Y.st false w' (bO w.1.size w'.1.size) vS (V.kW a (Rc.iz b) cI).steps/\
  ay Y.fd false w' (bO w.1.size w'.1.size) vF (V.kW a (Rc.iz b) cI).eY/\da Y.cf w' (bO w.1.size w'.1.size) vC (V.wS a (V.kW a (Rc.iz b) cI).fJ))
theorem Gb{a:Ap}{b:Nat}{cI:List (Int×Int×Int)}(h:V.iH a b cI=0):Tb.right a.n a.az a.T=true/\Rc.tp b=0/\∀c∈cI,c.1=0\/c.1=1\/c.1=2\/c.1=3:=by
 unfold V.iH at h;split at h
 ·cases h
 ·split at h
  ·cases h
  ·next F=>
   split at h
   ·next R=>exact absurd h R
   ·next R=>
    split at h
    ·next h3=>
     refine⟨by simpa using F,by simpa using R,λc hc=>?_⟩;have:=eT.1 h3 c hc;unfold sQ at this;rw[cQ] at this;have:=Ct this.1;omega
    ·cases h
theorem I8(b:Nat):∀(n k:Nat),k<=Rc.up b n k/\Rc.up b n k<=k+n
 |0,k=>by unfold Rc.up;omega
 |n+1,k=>by
  have:=I8 b n (k+1);unfold Rc.up;split<;>omega
theorem vJ{b:Nat}(h:Rc.tp b=0):1<=Rc.iz b/\Rc.iz b<=20:=by
 unfold Rc.tp at h;unfold Rc.iz;split at h
 ·cases h
 ·next q=>
  rw[aO q];have:=I8 b 19 1;omega
theorem CoP.of{a:Ap}{N k:Nat}{c:Int}{t:Nt}(h:dZ a N c k t)(ha:fy a N):CoP a t:=
 ⟨by have:=ha.L;omega,h.ll,by rw[h.nl];have:=ha.n6;omega,h.vz,λi e hi=>by
  obtain⟨bY,he⟩:=eD.1 hi;have D:=(ha.lk _ (dV hi)).1;obtain⟨kn,Jr⟩:=EN D.1;have T0:kn<t.nodes.length:=by rw[h.nl];omega
  have hn:=h.nd _ _ (eu T0);exact⟨kn,t.nodes[kn],Jr,eu T0,by rw[hn.h.nd];exact hn.h.Z⟩⟩
theorem fR.start{w w':World}{lo:Nat}{a:Ap}{t:Nt}{s:NA}(h:bU w lo a t s)(D:∀k,¬s.ex k)(I:aY w w')(bp:G w' w.1.size #[(),(),(),(),(),(),.pointer s.nb,aP] 62)(hl:lo<=w.1.size):
 fR w' lo a ⟨[],[],[],t⟩ {s with ex:=λb=>s.ex b\/b=w.1.size} ⟨w.1.size,.slice none 0 0,.slice none 0 0,.slice none 0 0,0⟩:=
 have hn:∀ {P:Prop} {b:Nat},(Value.slice none 0 0).ownBlock=some b->P:=λe=>by cases e
 ⟨h.lS I (λb=>b=w.1.size) (λb q=>by subst q;exact⟨bE,bp.lt⟩),bp,cj.nil _ _ _ _ _,cj.nil _ _ _ _ _,cj.nil _ _ _ _ _,.inr rfl,λb e=>hn e,λb e=>hn e,λb e=>hn e,λb e=>e.elim (λe=>absurd e (D b)) λe=>by subst e;exact h.eP bE bp.lt,hl⟩
theorem Rf(gA TA cA:Option Addr)(gk Tk ck:Nat)(a:Ap)(b:Nat)(cI:List (Int×Int×Int))(w:World)(S:Nat->Prop)(hS:∀b,S b->b<w.1.size)(h0:ay Y.msg false w S (.slice gA a.az.length gk) a.az)(F:ay Y.eC false w S (.slice TA a.T.length Tk) a.T)(R:ay Y.aQ false w S (.slice cA cI.length ck) cI)(I:b<2^64)(hL:a.az.length<=1000)(hA:cI.length<=100):
 Calls prog 5 #[.agg #[a.n,.slice gA a.az.length gk,.slice TA a.T.length Tk,a.bF,.float .f64 b,.slice cA cI.length ck]] w λy w'=>Ga w a b cI y w'/\aY w w':=by
 obtain⟨e0,sf⟩:=cJ (V.iH a b cI);have XK:=h0.bounds;have VT:=F.bounds;have XJ:=R.bounds;have hmf:∀(fn:Fn)(first cap:Array Value)(w:World),(Instr.makeFunc fn first cap).run prog w=.ok (.func fn first cap) w:=λ_ _ _ _=>rfl;have Bl:=@run_makeMap prog;have Z':=U sf;change aK _ at hS;have H1:=U F;have H2:=U R;have Oh:=U I;clear sf F R I;go_in;go_upto_region 1 with fail
 refine r9 λW1 b1 b2 J=>?_;have O:=ch b1;go_wp2_with fail;refine(CA gA TA cA gk Tk ck a b cI W1 S (j2 hS J.size) (h0.aE (dx hS J)) (H1.aE (dx hS J)) (H2.aE (dx hS J)) Oh.Z hL).mono ?_;clear O;rintro _ w2 ⟨rfl,I⟩;rw[Z'.Z];refine iX I b1 b2 J ?_;clear I b1 b2 J;intro _ b1 b2 J;by_cases he:e0=0
 case neg=>
  have q0:(e0 !=0)=true:=by simpa using he
  replace he:=U he;have O:=ch b2;go_wp2;have Xc:G (((((((w2.setCell ⟨w.1.size+1,0,none⟩ (.slice none 0 0)).setCell ⟨w.1.size+1,1,none⟩ (.slice none 0 0)).setCell ⟨w.1.size+1,2,none⟩ (.slice none 0 0)).setCell ⟨w.1.size+1,3,none⟩ (.slice none 0 0)).setCell ⟨w.1.size+1,4,none⟩ (.slice none 0 0)).setCell ⟨w.1.size+1,5,none⟩ (.slice none 0 0))) (w.1.size+1) #[(),(),(),(),(),()] 41:=(((((b2.cC 0 _).cC 1 _).cC 2 _).cC 3 _).cC 4 _).cC 5 _;clear O;refine bL (v:=.tuple #[.agg #[(),(),(),(),(),()],e0]) (iM results5 rfl rfl (Xc.ju 41 _ underlying41 rfl (by kernel_rfl))) rfl ?_;refine⟨.inl ⟨by rw[Z'.Z];exact he.Z,by rw[Z'.Z]⟩,?_⟩;have hle:w.1.size<=w.1.size+1:=by omega
  exact(((((J.setCell hle _).setCell hle _).setCell hle _).setCell hle _).setCell hle _).setCell hle _
 subst he;obtain⟨hT,K,ki⟩:=Gb Z'.Z;obtain⟨N,mZ⟩:=fy.of hT;have hcr:=vJ K;have QI:a.n<=1000:=by rw[mZ.n];have:=mZ.n6;omega
 replace ki:=U ki;replace mZ:=U mZ;replace hcr:=U hcr;replace hT:=U hT;replace K:=U K;have O:=ch b1;go_wp2_with fail;refine(Z0 gA TA gk Tk a b w2 S (j2 hS J.size) (da.PY (h0.aE (dx hS J)) (H1.aE (dx hS J))) Oh.Z hL QI).mono ?_;clear O;rintro _ w3 ⟨lZ,I⟩;rcases lZ with⟨e,rfl,fz,hee⟩|⟨-,-,s,rfl,hex,hN⟩
 ·exact absurd (by rw[hee,hT.Z,aO (by decide),K.Z]) fz
 obtain⟨lo,pe⟩:=cJ w2.1.size;rw[pe] at hN;have z2:=b2.lt;have z3:=I.size;replace b1:=b1.next I;replace b2:=b2.next I;replace J:=dW J I;have hlw:lo<=w3.1.size:=by omega
 have vi:w.1.size+2<=lo:=by omega
 clear I z2 z3 pe;have HN:=U hN;replace hex:=U hex;have HB:=U J;have B1:=U b1;have B2:=U b2;clear hN J b1 b2 QI;go_upto_region 8 with fail
 refine nw λW4 bp I=>?_;have hp:=fR.start HN.Z hex.Z I bp hlw;have b1:=B1.next I;have b2:=B2.next I;have J:=dW HB.Z I;have z4:=bp.lt;have zb:=HB.size;clear I B1 B2 HB bp;obtain⟨pb,hpb⟩:=cJ w3.1.size;rw[hpb] at hp⊢;obtain⟨s0,Gs⟩:∃s0,({s with ex:=λb=>s.ex b\/b=pb}:NA)=s0:=⟨_,rfl⟩;have hds:∀k,k<w3.1.size->k<lo->DS W4 s0 k:=λk k1 k2=>by
  rw[<-Gs];have hN:=HN.Z;exact⟨⟨by omega,by have:=hN.lt;show k≠s.nb;omega,λe=>by have:=(hN.dA e).1;omega,λe=>by have:=(hN.dP e).1;omega,λe=>by have:=(hN.dN e).1;omega⟩,λe=>e.elim (hex k) λe=>by omega⟩
 rw[Gs] at hp;have X4:aK (s0.nb=s.nb):=U (by rw[<-Gs]);change aK _ at hds;clear Gs HN hex;have q0:(Instr.mapUpdate 66 (.map (some W4.1.size)) (.int .i64 0) (.agg #[.func (.func 15) #[.pointer pb] #[]])).run prog (W4.alloc (.map #[] 0))=.ok () (W4.alloc (.map (GD (.pointer pb) 1) 1)):=F9 W4 (.pointer pb) 0 (by omega) _ rfl;have q1:(Instr.mapUpdate 66 (.map (some W4.1.size)) (.int .i64 1) (.agg #[.func (.func 16) #[.pointer pb] #[]])).run prog (W4.alloc (.map (GD (.pointer pb) 1) 1))=.ok () (W4.alloc (.map (GD (.pointer pb) 2) 2)):=F9 W4 (.pointer pb) 1 (by omega) _ rfl;have q2:(Instr.mapUpdate 66 (.map (some W4.1.size)) (.int .i64 2) (.agg #[.func (.func 17) #[.pointer pb] #[]])).run prog (W4.alloc (.map (GD (.pointer pb) 2) 2))=.ok () (W4.alloc (.map (GD (.pointer pb) 3) 3)):=F9 W4 (.pointer pb) 2 (by omega) _ rfl;have q3:(Instr.mapUpdate 66 (.map (some W4.1.size)) (.int .i64 3) (.agg #[.func (.func 18) #[.pointer pb] #[]])).run prog (W4.alloc (.map (GD (.pointer pb) 3) 3))=.ok () (W4.alloc (.map (GD (.pointer pb) 4) 4)):=F9 W4 (.pointer pb) 3 (by omega) _ rfl;have HP:=U hp;have HB:=U J;have B1:=U b1;have B2:=U b2;clear hp J b1 b2;go_upto_region 9 with fail
 clear q0 q1 q2 q3;refine bK λW5 hW=>?_;have Du:W5.1[W4.1.size]?=some (.map (GD (.pointer pb) 4) 4):=hW▸(MapKept.heap_alloc W4 _).1;have I:=Below.eqv hW (cT.alloc bE _);have zmb:W4.1.size<W5.1.size:=by rw[<-hW];simp
 clear hW;have hp:=HP.next I;have b1:=B1.next I;have b2:=B2.next I;have J:=dW HB.Z I;have hmd:DS W5 s0 W4.1.size:=HP.fJ.wY bE zmb;have TC:∀k,k<w3.1.size->k<lo->DS W5 s0 k:=λk k1 k2=>DS.up I.size k (hds k k1 k2);obtain⟨mb,hmb⟩:=cJ W4.1.size;rw[hmb] at Du hmd⊢;clear HP HB B1 B2 hds I zmb hmb;have HP:=U hp;replace J:=U J;have B2:=U b2;have aab:=U Du;replace hmd:=U hmd;change aK _ at TC;clear hp b2 Du;obtain⟨kc,kf,kl⟩:=b1.open_;go_wp2;replace b1:=U b1;clear kc kf kl;have hwp:w.1.size+2<=pb:=by omega
 go_loopg [11,12,13,54] cI.length (λq _ _ _ i wr=>∃(j:Nat)(p:V.qz)(s1:NA)(vE vS vF:Value)(fm:Int),i=.int .i64 (j:Int)/\j<=cI.length/\q=cI.length-j/\aK (p=((cI.take j).foldl (V.act a) (⟨[],[],[],V.rO a (Rc.iz b)⟩:V.qz)))/\fR wr lo a p s1 ⟨pb,vE,vS,vF,fm⟩/\db s0 W5 s1 wr)
 case atStart=>exact⟨0,_,s0,.slice none 0 0,.slice none 0 0,.slice none 0 0,0,rfl,by omega,by omega,U rfl,HP.Z,db.refl _ _⟩
 case round=>
  obtain⟨j,p,s1,vE,vS,vF,fm,rfl,hj,Q,hp9,hp,hm⟩:=hrel;have Hk:=U Q;clear Q;have H:dZ a N (Rc.iz b) j p.fJ:=by
   rw[hp9.Z];have:=IW mZ.Z (cI.take j) 0 (⟨[],[],[],V.rO a (Rc.iz b)⟩:V.qz) (dZ.new mZ.Z hcr.Z);rw[dL,iR,show min j cI.length=j by omega] at this;exact this
  have hlen:=CD a (cI.take j) (⟨[],[],[],V.rO a (Rc.iz b)⟩:V.qz);rw[<-hp9.Z,dL,show min j cI.length=j by omega] at hlen;have rK:p.jB.length<=100/\p.steps.length<=100/\p.eY.length<=100:=by
   obtain⟨F,R,h3⟩:=hlen;simp only[nj] at F R h3;omega
  have HJ:aK (j<=100):=U (by omega);replace H:=U H;change aK _ at rK;clear hlen;obtain⟨W0,rfl⟩:∃W,W=wr:=⟨_,rfl⟩;by_cases bY:j<cI.length
  case neg=>
   obtain rfl:j=cI.length:=by omega
   rw[iw] at hp9;have aex:=hp.box.lt;have aey:=hp.lt;dsimp only at aex aey;have HP:=U hp;have HM:=U hm;clear hp hm;go_wp2_with fail;rw[<-X4.Z,<-HM.nb];refine(ZN lo a p.fJ s1 W0 HP.fJ (CoP.of H.Z mZ.Z)).mono ?_;rintro _ w9 ⟨⟨v,rfl,hv⟩,I⟩;obtain⟨A0,A1,A2,k0,k1,k2,rfl,Fw,rL,FD⟩:=hv.cf;have hp:=HP.next I;have hm:=HM.trans (db.of I);have z9:=I.size;clear I HP HM;have b2:=hm.bx B2.Z (TC.Z _ (by omega) (by omega));obtain⟨E0,e0,sf,_,_⟩:=hp.rE.form;obtain⟨E1,e1,ur,_,_⟩:=hp.rS.form;obtain⟨E2,e2,r',_,_⟩:=hp.rF.form;dsimp only at sf ur r';subst sf;subst ur;subst r';have rT:=hp.box.lt;have hm5:=hm.size;replace hp:=U hp;replace hm:=U hm;replace hv:=U hv;clear Fw rL FD;have bx:=hp.box;dsimp only[OZ] at bx;obtain⟨nE,hnE⟩:=cJ p.jB.length;obtain⟨nS,hnS⟩:=cJ p.steps.length;obtain⟨nF,U0⟩:=cJ p.eY.length;obtain⟨c0,CQ⟩:=cJ ((V.wS a p.fJ).aL.length);obtain⟨c1,qX⟩:=cJ ((V.wS a p.fJ).az.length);obtain⟨c2,oW⟩:=cJ ((V.wS a p.fJ).aQ.length);rw[hnE,hnS,U0] at bx;rw[CQ,qX,oW] at hv⊢;rw[hnE,hnS,U0] at hp;clear hnE hnS U0 CQ qX oW;have BX:=U bx;have O:=ch bx;go_upto_region 18 with fail
   clear O bx;refine bK λW9 hW=>?_;have bx:G W9 pb #[.slice E0 nE e0,.slice E1 nS e1,.slice E2 nF e2,.slice A0 c0 k0,.slice A1 c1 k1,.slice A2 c2 k2,.pointer s1.nb,fm] 62:=G.eqv hW (((BX.cC 3 _).cC 4 _).cC 5 _);have cW:bH pb w9 W9:=bH.eqv hW ((((bH.refl _ _).bd 3 _).bd 4 _).bd 5 _);clear hW BX;have GB:=b2.only cW (by omega);replace cW:=U cW;have B29:=U GB;clear b2;have O:=eE bx GB;go_wp2;clear O bx GB;have Xc:=(((((B29.cC 0 (.slice E0 nE e0)).cC 1 (.slice E1 nS e1)).cC 2 (.slice E2 nF e2)).cC 3 (.slice A0 c0 k0)).cC 4 (.slice A1 c1 k1)).cC 5 (.slice A2 c2 k2);refine bL (v:=.tuple #[.agg #[.slice E0 nE e0,.slice E1 nS e1,.slice E2 nF e2,.slice A0 c0 k0,.slice A1 c1 k1,.slice A2 c2 k2],aP]) (iM results5 rfl rfl (Xc.ju 41 _ underlying41 rfl (by kernel_rfl))) rfl ?_;clear Xc;have r7:bH (w.1.size+1) W9 ((((((W9.setCell ⟨w.1.size+1,0,none⟩ (.slice E0 nE e0)).setCell ⟨w.1.size+1,1,none⟩ (.slice E1 nS e1)).setCell ⟨w.1.size+1,2,none⟩ (.slice E2 nF e2)).setCell ⟨w.1.size+1,3,none⟩ (.slice A0 c0 k0)).setCell ⟨w.1.size+1,4,none⟩ (.slice A1 c1 k1)).setCell ⟨w.1.size+1,5,none⟩ (.slice A2 c2 k2)):=((((((bH.refl _ _).bd 0 _).bd 1 _).bd 2 _).bd 3 _).bd 4 _).bd 5 _;obtain⟨WZ,hWZ⟩:∃W,W=((((((W9.setCell ⟨w.1.size+1,0,none⟩ (.slice E0 nE e0)).setCell ⟨w.1.size+1,1,none⟩ (.slice E1 nS e1)).setCell ⟨w.1.size+1,2,none⟩ (.slice E2 nF e2)).setCell ⟨w.1.size+1,3,none⟩ (.slice A0 c0 k0)).setCell ⟨w.1.size+1,4,none⟩ (.slice A1 c1 k1)).setCell ⟨w.1.size+1,5,none⟩ (.slice A2 c2 k2)):=⟨_,rfl⟩;rw[<-hWZ] at r7⊢;clear hWZ;have fM:WZ.1.size=w9.1.size:=r7.size.trans cW.size;have VX:∀k,lo<=k->k≠pb->WZ.1[k]?=w9.1[k]?:=λk k1 k2=>(r7.block k (by omega)).trans (cW.block k k2);have hpe:p=V.kW a (Rc.iz b) cI:=hp9.Z;have hP:=hp.Z;have r0:=hP.rE;have r1:=hP.rS;have r2:=hP.rF;have hbp:=hP.box;dsimp only at r0 r1 r2 hbp;have t0:=r0.bM hbp (by decide);have t1:=r1.bM hbp (by decide);have t2:=r2.bM hbp (by decide);refine⟨.inr ⟨Z'.Z,.slice E0 nE e0,.slice E1 nS e1,.slice E2 nF e2,.agg #[.slice A0 c0 k0,.slice A1 c1 k1,.slice A2 c2 k2],_,_,_,rfl,rfl,?_,?_,?_,?_⟩,?_⟩
   ·rw[<-hpe];exact(r0.on (S':=λk=>lo<=k/\k<w9.1.size/\k≠pb) (λ_ q=>q.elim) λk e=>⟨(r0.lt k e).1,(r0.lt k e).2,λq=>t0 (q▸e)⟩).aE (λk q=>VX k q.1 q.2.2) |>.aF λk q=>⟨by omega,by rw[fM];exact q.2.1⟩
   ·rw[<-hpe];exact(r1.on (S':=λk=>lo<=k/\k<w9.1.size/\k≠pb) (λ_ q=>q.elim) λk e=>⟨(r1.lt k e).1,(r1.lt k e).2,λq=>t1 (q▸e)⟩).aE (λk q=>VX k q.1 q.2.2) |>.aF λk q=>⟨by omega,by rw[fM];exact q.2.1⟩
   ·rw[<-hpe];exact(r2.on (S':=λk=>lo<=k/\k<w9.1.size/\k≠pb) (λ_ q=>q.elim) λk e=>⟨(r2.lt k e).1,(r2.lt k e).2,λq=>t2 (q▸e)⟩).aE (λk q=>VX k q.1 q.2.2) |>.aF λk q=>⟨by omega,by rw[fM];exact q.2.1⟩
   ·rw[<-hpe];exact(hv.aE λk q=>VX k (by have:=bO.lo q;omega) (by have:=bO.lo q;omega)).aF λk q=>⟨by have:=bO.lo q;omega,by rw[fM];exact bO.hi q⟩
   ·have h5:=hm.Z;have TD:=J.Z;exact⟨r7.os.trans (cW.os.trans (h5.os.trans TD.os)),r7.tape.trans (cW.tape.trans (h5.tape.trans TD.tape)),r7.output.trans (cW.Z.output.trans (h5.output.trans TD.output)),by have:=h5.size;have:=TD.size;omega,λk Q=>(r7.block k (by omega)).trans ((cW.block k (by omega)).trans ((h5.block k (TC k (by omega) (by omega))).trans (TD.block k Q)))⟩
  obtain⟨⟨k,A,B⟩,D⟩:=Pc.get_at bY;have Gp:=ki.Z _ (dV D);dsimp only at Gp;have hbS:∀b,S b->W0.1[b]?=w.1[b]?:=λb q=>by
   have Vf:=hS.Z b q;exact(hm.block b (TC b (by omega) (by omega))).trans (J.block b Vf)
  obtain⟨gx,ox,rfl,jy,x0,x1,x2⟩:=dm.QF (H2.aE hbS).arr D;dsimp only at x0 x1 x2;have HP:=U hp;have HM:=U hm;replace D:=U D;clear hp hm hbS jy;go_upto_region 13 with fail
  clear x0 x1 x2;refine nw λW6 ba I=>?_;have Du:W6.1[mb]?=some (.map (GD (.pointer pb) 4) 4):=(I.block _ (HM.ds _ hmd.Z).lt).trans ((HM.block _ hmd.Z).trans aab.Z);have hp:=HP.next I;have hm:=HM.trans (db.of I);clear I HP HM;obtain⟨⟨e1,r1,p1⟩,CW⟩:∃d,V.uq a p (k,A,B)=d:=⟨_,rfl⟩;have X5:=U CW;change aK _ at Du;have HP:=U hp;have HM:=U hm;replace ba:=U ba;clear CW hp hm;have Ez:=oT;have SL:∀(f:FuncId)(W:World),(Instr.field 65 (.agg #[.func (.func f) #[.pointer pb] #[]]) 0).run prog W=.ok (.func (.func f) #[.pointer pb] #[]) W:=λ_ _=>by kernel_rfl
  go_cut [12,13] (λp12 u13 wx=>∃(g:Nat)(C:Array Value)(s8:NA)(q8:Lr),p12=.pointer g/\u13=.int .i64 e1/\tg C r1/\G wx g C 73/\fR wx lo a p1 s8 q8/\db s1 W6 s8 wx/\q8.pb=pb/\DS wx s8 g)
  case first=>
   rcases Gp with rfl |rfl |rfl |rfl
   ·have yz:(Instr.lookup 66 (.map (some mb)) (.int .i64 0) false).run prog W6=.ok (.agg #[.func (.func 15) #[.pointer pb] #[]]) W6:=F' W6 mb (.pointer pb) Du.Z 0 (by omega) (.agg #[.func (.func 15) #[.pointer pb] #[]]) rfl;have CW:aK (V.uq a p (0,A,B)=(e1,r1,p1)):=X5;have hp:=HP.Z;have O:=ch ba.Z;go_wp2_with fail;refine(WX lo a p s1 ⟨pb,vE,vS,vF,fm⟩ 0 A B W6 hp (H.Cs mZ.Z) (H.pick mZ.Z HJ.Z A B) (by have:=rK.Z;omega)).mono ?_;clear O yz;rintro _ w7 ⟨C,s8,q8,rfl,hC,yf,Lt,Lu⟩;have e0:(V.gU a p.fJ A B).1=e1:=fS (·.1) CW.Z;have er:V.UZ=r1:=fS (·.2.1) CW.Z;have ep:=fS (·.2.2) CW.Z;replace yf:fR w7 lo a p1 s8 q8:=by rw[show p1=(V.uq a p (0,A,B)).2.2 from ep.symm];exact yf
    clear ep CW;rw[er] at hC;rw[e0];clear e0 er hp;replace yf:=U yf;replace Lt:=U Lt;replace Lu:=U Lu;go_wp2_with (first |refine wpList_build rfl 73 _ rfl _ _ Ez (by go_simp) ?_|(refine wpList_store_mid rfl 73 (.tmp 12) (.tmp 66) rfl w7.1.size 0 C rfl rfl ((G.new w7 fZ 73).cR (n:=C.size) (by rw[hC.1];rfl)) (by rw[hC.1];kernel_rfl) hC.2.1 ?_;rw[aH]));refine qq λW8 hW=>?_;have r8:G W8 w7.1.size C 73:=G.eqv hW ((G.new w7 fZ 73).cm C (by rw[hC.1];rfl));have I:aY w7 W8:=Below.eqv hW (aI bE _ _ _ (cT.alloc bE _));clear hW;go_meet;exact⟨w7.1.size,C,s8,q8,rfl,rfl,hC,r8,yf.next I,Lt.trans (db.of I),Lu.Z,yf.fJ.wY bE r8.lt⟩
   ·have yz:(Instr.lookup 66 (.map (some mb)) (.int .i64 1) false).run prog W6=.ok (.agg #[.func (.func 16) #[.pointer pb] #[]]) W6:=F' W6 mb (.pointer pb) Du.Z 1 (by omega) (.agg #[.func (.func 16) #[.pointer pb] #[]]) rfl;have CW:aK (V.uq a p (1,A,B)=(e1,r1,p1)):=X5;have hp:=HP.Z;have O:=ch ba.Z;go_wp2_with fail;refine(Oe lo a p s1 ⟨pb,vE,vS,vF,fm⟩ N 1 A B W6 hp H.vz H.ll (by have:=rK.Z;omega) (H.S9 mZ.Z HJ.Z A B)).mono ?_;clear O yz;rintro _ w7 ⟨C,s8,q8,rfl,hC,yf,Lt,Lu⟩;have e0:(V.cS a p.fJ A B).1=e1:=fS (·.1) CW.Z;have er:(V.cS a p.fJ A B).2.1=r1:=fS (·.2.1) CW.Z;have ep:=fS (·.2.2) CW.Z;replace yf:fR w7 lo a p1 s8 q8:=by rw[show p1=(V.uq a p (1,A,B)).2.2 from ep.symm];exact yf
    clear ep CW;rw[er] at hC;rw[e0];clear e0 er hp;replace yf:=U yf;replace Lt:=U Lt;replace Lu:=U Lu;go_wp2_with (first |refine wpList_build rfl 73 _ rfl _ _ Ez (by go_simp) ?_|(refine wpList_store_mid rfl 73 (.tmp 12) (.tmp 66) rfl w7.1.size 0 C rfl rfl ((G.new w7 fZ 73).cR (n:=C.size) (by rw[hC.1];rfl)) (by rw[hC.1];kernel_rfl) hC.2.1 ?_;rw[aH]));refine qq λW8 hW=>?_;have r8:G W8 w7.1.size C 73:=G.eqv hW ((G.new w7 fZ 73).cm C (by rw[hC.1];rfl));have I:aY w7 W8:=Below.eqv hW (aI bE _ _ _ (cT.alloc bE _));clear hW;go_meet;exact⟨w7.1.size,C,s8,q8,rfl,rfl,hC,r8,yf.next I,Lt.trans (db.of I),Lu.Z,yf.fJ.wY bE r8.lt⟩
   ·have yz:(Instr.lookup 66 (.map (some mb)) (.int .i64 2) false).run prog W6=.ok (.agg #[.func (.func 17) #[.pointer pb] #[]]) W6:=F' W6 mb (.pointer pb) Du.Z 2 (by omega) (.agg #[.func (.func 17) #[.pointer pb] #[]]) rfl;have CW:aK (V.uq a p (2,A,B)=(e1,r1,p1)):=X5;have hp:=HP.Z;have O:=ch ba.Z;go_wp2_with fail;refine(Tx lo a p s1 ⟨pb,vE,vS,vF,fm⟩ N 2 A B W6 hp H.ep H.vz (H.start mZ.Z HJ.Z A)).mono ?_;clear O yz;rintro _ w7 ⟨C,s8,q8,rfl,hC,yf,Lt,Lu⟩;have e0:(V.ed a p.fJ A).1=e1:=fS (·.1) CW.Z;have er:(V.ed a p.fJ A).2.1=r1:=fS (·.2.1) CW.Z;have ep:=fS (·.2.2) CW.Z;replace yf:fR w7 lo a p1 s8 q8:=by rw[show p1=(V.uq a p (2,A,B)).2.2 from ep.symm];exact yf
    clear ep CW;rw[er] at hC;rw[e0];clear e0 er hp;replace yf:=U yf;replace Lt:=U Lt;replace Lu:=U Lu;go_wp2_with (first |refine wpList_build rfl 73 _ rfl _ _ Ez (by go_simp) ?_|(refine wpList_store_mid rfl 73 (.tmp 12) (.tmp 66) rfl w7.1.size 0 C rfl rfl ((G.new w7 fZ 73).cR (n:=C.size) (by rw[hC.1];rfl)) (by rw[hC.1];kernel_rfl) hC.2.1 ?_;rw[aH]));refine qq λW8 hW=>?_;have r8:G W8 w7.1.size C 73:=G.eqv hW ((G.new w7 fZ 73).cm C (by rw[hC.1];rfl));have I:aY w7 W8:=Below.eqv hW (aI bE _ _ _ (cT.alloc bE _));clear hW;go_meet;exact⟨w7.1.size,C,s8,q8,rfl,rfl,hC,r8,yf.next I,Lt.trans (db.of I),Lu.Z,yf.fJ.wY bE r8.lt⟩
   ·have yz:(Instr.lookup 66 (.map (some mb)) (.int .i64 3) false).run prog W6=.ok (.agg #[.func (.func 18) #[.pointer pb] #[]]) W6:=F' W6 mb (.pointer pb) Du.Z 3 (by omega) (.agg #[.func (.func 18) #[.pointer pb] #[]]) rfl;have CW:aK (V.uq a p (3,A,B)=(e1,r1,p1)):=X5;have hp:=HP.Z;have O:=ch ba.Z;go_wp2_with fail;refine(Tw lo a p s1 ⟨pb,vE,vS,vF,fm⟩ 3 A B W6 hp H.pr H.lK (H.yh mZ.Z A)).mono ?_;clear O yz;rintro _ w7 ⟨C,s8,q8,rfl,hC,yf,Lt,Lu⟩;have e0:(V.ft a p.fJ A).1=e1:=fS (·.1) CW.Z;have er:V.UZ=r1:=fS (·.2.1) CW.Z;have ep:=fS (·.2.2) CW.Z;replace yf:fR w7 lo a p1 s8 q8:=by rw[show p1=(V.uq a p (3,A,B)).2.2 from ep.symm];exact yf
    clear ep CW;rw[er] at hC;rw[e0];clear e0 er hp;replace yf:=U yf;replace Lt:=U Lt;replace Lu:=U Lu;go_wp2_with (first |refine wpList_build rfl 73 _ rfl _ _ Ez (by go_simp) ?_|(refine wpList_store_mid rfl 73 (.tmp 12) (.tmp 66) rfl w7.1.size 0 C rfl rfl ((G.new w7 fZ 73).cR (n:=C.size) (by rw[hC.1];rfl)) (by rw[hC.1];kernel_rfl) hC.2.1 ?_;rw[aH]));refine qq λW8 hW=>?_;have r8:G W8 w7.1.size C 73:=G.eqv hW ((G.new w7 fZ 73).cm C (by rw[hC.1];rfl));have I:aY w7 W8:=Below.eqv hW (aI bE _ _ _ (cT.alloc bE _));clear hW;go_meet;exact⟨w7.1.size,C,s8,q8,rfl,rfl,hC,r8,yf.next I,Lt.trans (db.of I),Lu.Z,yf.fJ.wY bE r8.lt⟩
  case rest=>
   clear Gp Ez SL;obtain⟨g,C,s8,⟨pb8,vE8,vS8,vF8,fm8⟩,rfl,rfl,hC,r8,hp,hm8,rfl,o7⟩:=hcut;obtain⟨Wc,rfl⟩:∃W,W=wc:=⟨_,rfl⟩;have hm:=HM.trans hm8;clear hm8 HP HM ba Du;have yx:=Og a p (k,A,B);rw[X5.Z] at yx;dsimp only at yx;obtain⟨sE,sF⟩:=yx;have hE9:p1.jB.length<=1000000:=by rw[sE];have:=rK.Z;omega
   have hF9:p1.eY.length<=1000000:=by rw[sF];have:=rK.Z;omega
   replace sE:=U sE;replace sF:=U sF;change aK _ at hE9 hF9;have aez:=hp.lt;have rT:=hp.box.lt;dsimp only at aez rT;have k0:Wc.cell? ⟨pb8,0,none⟩=some vE8:=aD hp.box 0;replace hp:=U hp;replace hm:=U hm;replace r8:=U r8;replace o7:=U o7;go_upto_region 15 with(at_builtin;refine dv (r:=Y.int) (y:=e1) rfl (.tmp 73) (.tmp 75) 33 rfl lo 42 Tryz.Od underlying33 rfl (by omega) vE8 rfl (hp.rE.next (cT.alloc bE _) λ_ k=>k.elim) (λ_ k=>k.elim) (by simp;omega) 1 Wc.1.size [e1] rfl (G.new _ _ _) rfl hE9.Z ?_;intro v9 w9 im lE j7 nO;obtain⟨A9,c9,nG,_,_⟩:=im.form;obtain⟨n9,hn99⟩:∃n,(p1.jB++[e1]).length=n:=⟨_,rfl⟩;rw[hn99] at nG;clear hn99;subst nG;have XR:=hp.next ((bI Wc.1.size Wc).alloc bE (.cells #[e1] 42));have ga:=XR.box.grown lE (XR.rE.bM XR.box (by decide));have X6:=U XR;have AJ:=U im;have X7:=U lE;have UM:=U nO;clear k0 XR im lE nO j7;obtain⟨kc,kf,kl⟩:=ga.open_)
   clear kc kf kl;refine bK λuj hW=>?_;have cW:bH pb8 w9 uj:=bH.eqv hW ((bH.refl _ _).bd 0 _);have aac:G uj pb8 (OZ s8 ⟨pb8,.slice A9 n9 c9,vS8,vF8,fm8⟩) 62:=G.eqv hW (ga.bd 0 _);have TE:=X6.kx AJ.Z X7.Z UM.Z cW aac;have TF:=(hm.trans (db.of ((bI Wc.1.size Wc).alloc bE (.cells #[e1] 42)))).trans (X6.nQ X7.Z X6.xE cW);have mv:=(db.of (s:=s8) ((bI Wc.1.size Wc).alloc bE (.cells #[e1] 42))).trans (X6.nQ X7.Z X6.xE cW);have U1:=mv.bx r8.Z o7.Z;clear hW cW aac ga X6 AJ X7 UM r8 o7 mv;replace TE:=U TE;replace TF:=U TF;clear hp hm;go_wp2_with (refine wpList_load_mid rfl 73 (.tmp 12) rfl g 0 rfl C.toList _ (U1.bO (o:=0) (n:=14) (by rw[<-hC.1];simp)) underlying73 rfl (by rw[eK,hC.1];kernel_rfl) ?_);refine(Xa lo a _ _ _ r1 C hC uj TE.Z hF9.Z).mono ?_;clear U1;rintro _ NZ ⟨ZZ,⟨aj4,aeA,aeB,aeC,aeD⟩,rfl,Xd,aad,aae⟩;dsimp only at aae;subst aae;replace Xd:=U Xd;have aeE:=U (TF.trans aad);clear aad TE TF;go_wp2;go_roundg (cI.length-(j+1))
   case rel=>
    refine⟨j+1,_,ZZ,aeA,aeB,aeC,aeD,by simp,by omega,rfl,U ?_,Xd.Z,aeE.Z⟩;rw[Pc.de D.Z,List.foldl_append,kK,List.foldl_nil,<-hp9.Z,Re,X5.Z];dsimp only;rw[sE.Z,sF.Z]
   case measure=>have:=Hk.Z;omega
theorem cj.empty{α:Type}(r:Y α)(e:TypeId)(w:World):cj r e w.1.size (w.alloc (.cells #[] e)) (λ_=>False) (.slice w.1.size 0 0) []:=
 ⟨[],tQ (w:=w) (size:=r.size) w.1.size e 0 [] (by simp) bE (by unfold maxLen;omega),rfl,λ_ _ q=>q⟩
theorem EK(v u:Value)(xs:List Int)(w:World)(S:Nat->Prop)(hS:∀b,S b->b<w.1.size)(h:ay Y.int false w S v xs)(h':ay Y.int false w S u xs):
 Calls prog 28 #[v,u] w λy w'=>y=.returned (.bool true)/\aY w w':=by
 obtain⟨A,c,rfl,l1,m1,F⟩:=h;obtain⟨A',c',rfl,l2,m2,R⟩:=h';unfold maxLen at m1 m2;change aK _ at hS;go_in;go_wp2;go_loopg [5] xs.length (λk i wr=>∃j:Nat,i=.int .i64 (j:Int)/\j<=xs.length/\k=xs.length-j/\Quiet w wr)
 case atStart=>exact⟨0,rfl,by omega,by omega,Quiet.refl _⟩
 case round=>
  obtain⟨j,rfl,hj,Q,I⟩:=hrel;change aK _ at Q;by_cases bY:j<xs.length
  ·obtain⟨x,D⟩:=Pc.get_at bY;obtain⟨g,o,rfl,hg,c0⟩:=dm.qW (F.aE λb q=>by rw[I.heap]) D;obtain⟨g',o',rfl,Dx,c0'⟩:=dm.qW (R.aE λb q=>by rw[I.heap]) D;have Rr:(x !=x)=false:=by simp
   clear F R D;go_wp2_with fail;go_quiet (fail);go_wp2;go_roundg (xs.length-(j+1))
   case rel=>exact⟨j+1,by simp,by omega,rfl,I.drewN _⟩
   case measure=>have:=Q.Z;omega
  ·go_wp2;go_ret;exact⟨rfl,I.below⟩
theorem Oi(v u:Value)(xs:List (Int×Int))(w:World)(S:Nat->Prop)(hS:∀b,S b->b<w.1.size)(h:ay Y.msg false w S v xs)(h':ay Y.msg false w S u xs):
 Calls prog 29 #[v,u] w λy w'=>y=.returned (.bool true)/\aY w w':=by
 obtain⟨A,c,rfl,l1,m1,F⟩:=h;obtain⟨A',c',rfl,l2,m2,R⟩:=h';unfold maxLen at m1 m2;change aK _ at hS;go_in;go_wp2;go_loopg [5] xs.length (λk i wr=>∃j:Nat,i=.int .i64 (j:Int)/\j<=xs.length/\k=xs.length-j/\Quiet w wr)
 case atStart=>exact⟨0,rfl,by omega,by omega,Quiet.refl _⟩
 case round=>
  obtain⟨j,rfl,hj,Q,I⟩:=hrel;change aK _ at Q;by_cases bY:j<xs.length
  ·obtain⟨x,D⟩:=Pc.get_at bY;obtain⟨x,x'⟩:=x;obtain⟨g,o,rfl,hg,c0,c1⟩:=dm.yY (F.aE λb q=>by rw[I.heap]) D;obtain⟨g',o',rfl,Dx,c0',c1'⟩:=dm.yY (R.aE λb q=>by rw[I.heap]) D;dsimp only at c0 c1 c0' c1';have Rr:(x==x)=true:=by simp
   have Yb:(x'==x')=true:=by simp
   clear F R D;go_wp2_with fail;go_quiet (fail);go_wp2;go_roundg (xs.length-(j+1))
   case rel=>exact⟨j+1,by simp,by omega,rfl,I.drewN _⟩
   case measure=>have:=Q.Z;omega
  ·go_wp2;go_ret;exact⟨rfl,I.below⟩
theorem dm.st_{fr:Bool}{w:World}{S:Nat->Prop}{k:Nat}{A:Option Addr}{xs:List St}{x:St}(h:dm Y.st fr w S A xs)(D:xs[k]?=some x):
 ∃g o,A=some ⟨g,o,none⟩/\S g/\w.cell? ⟨g,o+k * 5,none⟩=some (.int .i64 x.kind)/\w.cell? ⟨g,o+k * 5+1,none⟩=some (.int .i64 x.node)/\w.cell? ⟨g,o+k * 5+2,none⟩=some (.int .i64 x.k)/\w.cell? ⟨g,o+k * 5+3,none⟩=some (.int .i64 x.link)/\w.cell? ⟨g,o+k * 5+4,none⟩=some (.int .i64 x.seq):=by
 obtain⟨g,o,cs,rfl,F,h3,h5⟩:=dm.at_ h D;have xG:cs=[.int .i64 x.kind,.int .i64 x.node,.int .i64 x.k,.int .i64 x.link,.int .i64 x.seq]:=h3;subst xG;exact⟨g,o,rfl,F,by simpa[Y.st] using(h5 0 _ rfl).1,by simpa[Y.st,fK] using(h5 1 _ rfl).1,by simpa[Y.st,fK] using(h5 2 _ rfl).1,by simpa[Y.st,fK] using(h5 3 _ rfl).1,by simpa[Y.st,fK] using(h5 4 _ rfl).1⟩
theorem Lv(v u:Value)(xs:List St)(w:World)(S:Nat->Prop)(hS:∀b,S b->b<w.1.size)(h:ay Y.st false w S v xs)(h':ay Y.st false w S u xs):
 Calls prog 9 #[v,u] w λy w'=>y=.returned (.bool true)/\aY w w':=by
 obtain⟨A,c,rfl,l1,m1,F⟩:=h;obtain⟨A',c',rfl,l2,m2,R⟩:=h';unfold maxLen at m1 m2;change aK _ at hS;go_in;go_wp2;go_loopg [5] xs.length (λk i wr=>∃j:Nat,i=.int .i64 (j:Int)/\j<=xs.length/\k=xs.length-j/\Quiet w wr)
 case atStart=>exact⟨0,rfl,by omega,by omega,Quiet.refl _⟩
 case round=>
  obtain⟨j,rfl,hj,Q,I⟩:=hrel;change aK _ at Q;by_cases bY:j<xs.length
  ·obtain⟨x,D⟩:=Pc.get_at bY;obtain⟨x1,x2,x3,x4,x5⟩:=x;obtain⟨g,o,rfl,hg,c0,c1,c2,c3,c4⟩:=dm.st_ (F.aE λb q=>by rw[I.heap]) D;obtain⟨g',o',rfl,Dx,c0',c1',c2',c3',c4'⟩:=dm.st_ (R.aE λb q=>by rw[I.heap]) D;dsimp only at c0 c1 c2 c3 c4 c0' c1' c2' c3' c4';have b1:(x1==x1)=true:=by simp
   have b2:(x2==x2)=true:=by simp
   have b3:(x3==x3)=true:=by simp
   have b4:(x4==x4)=true:=by simp
   have b5:(x5==x5)=true:=by simp
   clear F R D;go_wp2_with fail;go_quiet (fail);go_wp2;go_roundg (xs.length-(j+1))
   case rel=>exact⟨j+1,by simp,by omega,rfl,I.drewN _⟩
   case measure=>have:=Q.Z;omega
  ·go_wp2;go_ret;exact⟨rfl,I.below⟩
theorem Tryz.Oj:(prog.info? 89).map (λi=>(i.zero,i.size,i.bytes))=some (some (.agg #[aP,aP,aP,aP,aP]),5,40):=by kernel_rfl
theorem CE(v:Value)(xs:List St)(w:World)(S:Nat->Prop)(hS:∀b,S b->b<w.1.size)(h:ay Y.st false w S v xs)(hn:xs.length<=1000):
 Calls prog 10 #[v] w λy w'=>(∃u,y=.returned u/\ay Y.st false w' (bO w.1.size w'.1.size) u xs)/\aY w w':=by
 obtain⟨A,c,rfl,l1,m1,F⟩:=h;unfold maxLen at m1;change aK _ at hS;replace F:=U F;go_in;go_upto_region 2 with fail
 refine bK λW0 hW=>?_;have J:=Below.eqv hW (cT.alloc bE _);have hz:w.1.size<W0.1.size:=by rw[<-hW];simp
 have h0:cj Y.st 89 w.1.size W0 (λ_=>False) (.slice w.1.size 0 0) []:=hW▸cj.empty _ _ _;clear hW hz;go_wp2;go_loopg [3,4] xs.length (λq r i wr=>∃(j:Nat)(g:Option Addr)(k:Nat),i=.int .i64 (j:Int)/\j<=xs.length/\q=xs.length-j/\r=.slice g j k/\cj Y.st 89 w.1.size wr (λ_=>False) r (xs.take j)/\aY w wr)
 case atStart=>exact⟨0,_,_,rfl,by omega,by omega,rfl,h0,J⟩
 case round=>
  clear h0 J;obtain⟨j,g,k,rfl,hj,Q,rfl,hR,J⟩:=hrel;change aK _ at Q;have zB:=J.size;by_cases bY:j<xs.length
  ·obtain⟨x,D⟩:=Pc.get_at bY;have ht:=Pc.de D;obtain⟨x1,x2,x3,x4,x5⟩:=x;obtain⟨gx,ox,rfl,hg,c0,c1,c2,c3,c4⟩:=dm.st_ (F.aE (dx hS J)) D;dsimp only at c0 c1 c2 c3 c4;have HR:=U hR;have HB:=U J;replace ht:=U ht;clear hR J D;go_wp2_with fail;refine(NT x1 x2 x3 x4 x5 wr).mono ?_;clear c0 c1 c2 c3 c4;rintro _ w2 ⟨rfl,I⟩;have hR:=HR.next I λ_ q=>q.elim;have J:=dW HB.Z I;have z2:=I.size;have rK:(xs.take j).length=j:=by rw[dL];omega
   replace hR:=U hR;change aK _ at rK;clear I HR HB;go_upto_region 4 with(at_builtin;refine dv (r:=Y.st) (y:=⟨x1,x2,x3,x4,x5⟩) rfl (.tmp 12) (.tmp 18) 50 rfl w.1.size 89 Tryz.Oj underlying50 rfl (by omega) (.slice g j k) rfl (hR.next (cT.alloc bE _) λ_ q=>q.elim) (λ_ q=>q.elim) (by simp;omega) 1 w2.1.size [x1,x2,x3,x4,x5] rfl (G.new _ _ _) rfl (by have:=rK.Z;omega) ?_;intro v9 w9 im lE j7 nO;obtain⟨A9,k9,nG,_,_⟩:=im.form;rw[dh,rK.Z,j'] at nG;subst nG;have pS:=((J.alloc (by omega) (.cells #[x1,x2,x3,x4,x5] 89)).grown lE (by simp;omega) (λk e=>(hR.lt k e).1));have AJ:=U im;have HB9:=U pS;clear im lE j7 nO pS J)
   go_wp2;go_roundg (xs.length-(j+1))
   case rel=>exact⟨j+1,A9,k9,by simp,by omega,rfl,rfl,by rw[ht.Z];exact AJ.Z,HB9.Z⟩
   case measure=>have:=Q.Z;omega
  ·obtain rfl:j=xs.length:=by omega
   rw[iw] at hR;go_wp2;go_ret;exact⟨⟨_,rfl,hR.on (λ_ q=>q.elim) λb e=>⟨(hR.lt b e).1,(hR.lt b e).2⟩⟩,J⟩
theorem I'(A0 A1 A2:Option Addr)(n0 n1 n2 k0 k1 k2:Nat)(w:World):
 Calls prog 12 #[.agg #[.slice A0 n0 k0,.slice A1 n1 k1,.slice A2 n2 k2]] w λy w'=>y=.returned (.agg #[.slice A0 n0 k0,.slice A1 n1 k1,.slice A2 n2 k2])/\aY w w':=by
 go_in;go_upto_region 1 with fail
 refine r9 λW1 b1 b2 J=>?_;obtain⟨kc,kf,kl⟩:=b1.open_;obtain⟨qc,qf,ql⟩:=b2.open_;go_wp2;clear kc kf kl;refine bL (v:=.agg #[.slice A0 n0 k0,.slice A1 n1 k1,.slice A2 n2 k2]) (by simp[results,results12,go_sem,qc,ql]) rfl ?_;have hle:w.1.size<=w.1.size+1:=by omega
 exact⟨rfl,((J.setCell hle _).setCell hle _).setCell hle _⟩
theorem Ok(va vb:Value)(c:Cf)(w:World)(S:Nat->Prop)(hS:∀b,S b->b<w.1.size)(ha:da Y.cf w S va c)(I:da Y.cf w S vb c):
 Calls prog 11 #[va,vb] w λy w'=>y=.returned (.bool true)/\aY w w':=by
 obtain⟨a0,a1,a2,mV,mm,ak2,rfl,kX,lM,ha2⟩:=ha.cf;obtain⟨t0,t1,t2,tk0,tk1,tk2,rfl,iv,ee,dO⟩:=I.cf;have z1:=lM.bounds;change aK _ at hS;clear ha I;go_in;go_upto_region 1 with fail
 refine r9 λW1 b1 b2 J=>?_;have O:=eE b1 b2;go_wp2_with fail;refine(EK _ _ c.aL W1 S (j2 hS J.size) (kX.aE (dx hS J)) (iv.aE (dx hS J))).mono ?_;clear O;rintro _ w2 ⟨rfl,I⟩;refine iX I b1 b2 J ?_;clear I b1 b2 J;intro _ b1 b2 J;have O:=eE b1 b2;go_wp2_with fail;refine(EK _ _ c.aQ w2 S (j2 hS J.size) (ha2.aE (dx hS J)) (dO.aE (dx hS J))).mono ?_;clear O;rintro _ w3 ⟨rfl,I⟩;refine iX I b1 b2 J ?_;clear I b1 b2 J;intro _ b1 b2 J;have j6:(((c.az.length:Nat):Int) !=((c.az.length:Nat):Int))=false:=by simp
 have O:=eE b1 b2;go_wp2;clear O;go_loopg [5] c.az.length (λk i wr=>∃j:Nat,i=.int .i64 (j:Int)/\j<=c.az.length/\k=c.az.length-j/\G wr w.1.size #[.slice a0 c.aL.length mV,.slice a1 c.az.length mm,.slice a2 c.aQ.length ak2] 53/\G wr (w.1.size+1) #[.slice t0 c.aL.length tk0,.slice t1 c.az.length tk1,.slice t2 c.aQ.length tk2] 53/\aY w wr)
 case atStart=>exact⟨0,rfl,by omega,by omega,b1,b2,J⟩
 case round=>
  clear b1 b2 J;obtain⟨j,rfl,hj,Q,b1,b2,J⟩:=hrel;change aK _ at Q;by_cases bY:j<c.az.length
  ·obtain⟨x,D⟩:=Pc.get_at bY;have O:=ch b1;go_upto_region 6 with fail
   clear O;refine rg 1024 λW4 I K=>?_;refine iX I b1 b2 J ?_;clear I b1 b2 J;intro _ b1 b2 J;obtain⟨g,p,cs,rfl,hg,⟨v,rfl,hv⟩,hc⟩:=dm.at_ (lM.arr.aE (dx hS J)) D;obtain⟨g',p',cs',rfl,Dx,⟨v',rfl,Rs⟩,hc'⟩:=dm.at_ (ee.arr.aE (dx hS J)) D;obtain⟨Bx,cx,rfl,_⟩:=id hv;obtain⟨By,cy,rfl,_⟩:=id Rs;have e0:W4.cell? ⟨g,p+j,none⟩=some (.slice Bx x.length cx):=by simpa[Y.slice] using(hc 0 _ rfl).1
   have e1:W4.cell? ⟨g',p'+j,none⟩=some (.slice By x.length cy):=by simpa[Y.slice] using(hc' 0 _ rfl).1
   replace hv:=U hv;replace Rs:=U Rs;clear hc hc';have O:=eE b1 b2;refine aG [0,1,2,3,4,5,6,7,8,9] 2 ?_;go_wp2;refine oJ 10 ?_;go_wp2_with fail;refine(Oi _ _ x W4 S (j2 hS J.size) hv.Z Rs.Z).mono ?_;clear O e0 e1;rintro _ w5 ⟨rfl,I⟩;refine ja I b1 b2 J K ?_;clear I b1 b2 J K;intro _ b1 b2 J K;go_wp2;first |refine⟨λ_=>K,?_⟩|refine⟨λq=>absurd q (by decide),?_⟩
   refine aG [11] 0 ?_;go_wp2;refine eJ ?_;go_wp2;go_roundg (c.az.length-(j+1))
   case rel=>exact⟨j+1,by simp,by omega,rfl,b1,b2,J⟩
   case measure=>have:=Q.Z;omega
  ·have O:=ch b1;go_wp2;go_ret;exact⟨rfl,J⟩
namespace Tb
def Ja(p:yp):yp:=⟨p.next,p.eo.take 10⟩
def Dv(z:nu):nu:=⟨z.mode,z.waits.take 10,(z.dg.take 10).map Ja,z.dd.take 30⟩
def CF(x:iD):iD:=⟨x.start,(x.aL.take 10).map Dv⟩
end Tb
def Ap.cut(a:Ap):Ap:=⟨a.n,a.az.take 40,(a.T.take 8).map Tb.CF,a.bF⟩
section
variable{P:Program}{w:World}{ops:Array Oper}{rest:List Oper}{o:Oper}{a:Act}{ao:Exit->Act->World->Prop}
theorem j5{α:Type}{r:Y α}{S:Nat->Prop}{xs ys:List α}(o7:o.guard=none)(s x:Operand)(t:TypeId)(ho:o.op=.call {callee:=.builtin .append,args:=#[s,x],argTypes:=#[t,t]})
 (B:Nat)(e:TypeId){z:Value}{bytes:Nat}(fU:(P.info? e).map (λi=>(i.zero,i.size,i.bytes))=some (some z,r.size,bytes))(ht:P.underlying t=some (.slice e))
 (nZ:z.cells.size=r.size)(E6:bytes<=1000)(v u:Value)(hs:a.eval s=v)(ct:cj r e B w S v xs)(hS:∀k,S k->k<B)(J:B<=w.1.size)
 (D:a.eval x=u)(hu:ay r false w S u ys)(hn:xs.length+ys.length<=1000000)
 (h:∀v' w',cj r e B w' S v' (xs++ys)->w.grownBy w' v.ownBlock->Below B w w'->(v'.ownBlock=v.ownBlock\/v'.ownBlock=some w.1.size)->wpList P ops ao rest (a.put o.dst v') w'):wpList P ops ao (o::rest) a w:=by
 have bY:=ct.lt;obtain⟨cells,F,R,h3⟩:=ct;obtain⟨A,c,rfl,_,_,hA⟩:=hu;refine gB o7 s x t ho B e fU ht nZ v xs.length cells hs F A c D hA (by unfold maxLen;omega) (bT (pq (show xs.length+ys.length<=1000001 by omega) E6) (by omega)) J ?_;intro v' w' news k0 k1 k2 k3 k4;have Q:∀b,S b->w'.1[b]?=w.1[b]?:=λb I=>k3.block b (hS b I);refine h v' w' ⟨cells++news,by rw[dh];exact k1,Y.all_append (Y.ej Q R) (Y.ej Q k0),λb e q=>?_⟩ k2 k3 k4;have hq:=hS b q;rcases k4 with k4|k4
 ·rw[k4] at e;have:=(bY b e).1;omega
 ·rw[k4] at e;cases e;omega
end
theorem ay.take{α:Type}{r:Y α}{fr:Bool}{w:World}{S:Nat->Prop}{A:Option Addr}{n c:Nat}{xs:List α}(h:ay r fr w S (.slice A n c) xs)(k:Nat):ay r fr w S (.slice A (xs.take k).length c) (xs.take k):=by
 obtain⟨A',c',e,F,R,cells,h3,h4⟩:=h;injection e with e1 e2 e3
 subst e1;subst e3;refine⟨A,c,rfl,by rw[dL];omega,R,cells.take (k * r.size),Y.GG k h3,λhn=>?_⟩;obtain⟨g,o,q1,q2,q3⟩:=h4 (by rw[dL] at hn;omega);refine⟨g,o,q1,q2,λj u hj=>q3 j u ?_⟩;rw[zX] at hj;split at hj
 ·exact hj
 ·cases hj
theorem Rg(A:Option Addr)(c:Nat)(n:Int)(xs:List (Int×Int))(w:World)(hc:xs.length<=c)(hm:c<=maxLen):
 Calls prog 30 #[.agg #[n,.slice A xs.length c]] w λy w'=>y=.returned (.agg #[n,.slice A (xs.take 40).length c])/\aY w w':=by
 unfold maxLen at hm;obtain⟨m,lu⟩:=cJ ((xs.take 40).length);have xH:min ((xs.length:Nat):Int) 40=(m:Int):=by rw[dL] at lu;omega
 have hm4:(min ((xs.length:Nat):Int) 40).toNat=m:=by omega
 have Bw:(0:Int)<=min ((xs.length:Nat):Int) 40:=by omega
 have hm5:min ((xs.length:Nat):Int) 40<=(c:Int):=by omega
 clear xH;have Fa:m<=xs.length:=by rw[dL] at lu;omega
 rw[lu];change aK _ at lu;go_in;go_upto_region 1 with fail
 refine r9 λW1 b1 b2 J=>?_;have O:=eE b1 b2;go_wp2;refine bL (v:=.agg #[n,.slice A m c]) (by simp[results,results30,go_sem,O]) rfl ?_;have hle:w.1.size<=w.1.size+1:=by omega
 exact⟨rfl,((J.setCell bE _).setCell hle _).setCell hle _⟩
end Go.Proofs.YtmgahjkopiaglaaGreat
