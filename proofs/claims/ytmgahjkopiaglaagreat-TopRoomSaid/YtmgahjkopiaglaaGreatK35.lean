/- Lemmas, walks and contracts by which the statement is proved. -/
import Derived.Test.YtmgahjkopiaglaaGreatK34
import Derived.Maps.RangeWalk
set_option maxRecDepth 100000
set_option maxHeartbeats 16000000
set_option linter.all false
namespace Go.Proofs.YtmgahjkopiaglaaGreat
open Go.RowKit Go.Proofs.Tryz
def La.H4(x:La):Bool:=decide (0<La.kV 6 x.l)
def nP(ls:List La):Prop:=∀x∈ls,lK x.l/\x.l.length<=25
theorem WG(v:Value)(x:La)(w:World)(S:Nat->Prop)(hS:∀b,S b->b<w.1.size)(h:kz w S v x)(Q:lK x.l)(hn:x.l.length<=25):
 Calls prog 59 #[v] w λy w'=>y=.returned (.bool (La.H4 x))/\aY w w':=by
 obtain⟨A,c,rfl,F⟩:=h;obtain⟨n,nO⟩:=cJ (La.kV 6 x.l);have hp:La.H4 x=decide (0<n):=by unfold La.H4;rw[nO]
 change aK _ at hp hS nO;replace F:=U F;replace Q:=U Q;go_in;go_upto_region 1 with fail
 refine nw λW1 bx J=>?_;have O:=ch bx;go_wp2_with fail;have vr:kz W1 S (.agg #[x.bF,x.cap,.slice A x.l.length c]) x:=⟨A,c,rfl,F.aE (dx hS J)⟩;refine(Pu (a:=x) (vr.Mx λb q=>aU (hS b q) J.size) (by decide) Q.Z (by omega) nO.Z).mono ?_;clear O vr;rintro _ w2 ⟨rfl,I⟩;go_wp2;go_ret;exact⟨by rw[hp.Z];simp,dW J I⟩
theorem ZK(v:Value)(xs:List La)(w:World)(S:Nat->Prop)(hS:∀b,S b->b<w.1.size)(h:ay Y.la false w S v xs)(Q:nP xs):
 Calls prog 87 #[v,.func (.func 59) #[] #[]] w λy w'=>y=.returned (.int .i64 (Pc.idx La.H4 xs))/\aY w w':=by
 obtain⟨A,c,rfl,hl,hm,hA⟩:=h;unfold maxLen at hm;replace hA:=U hA;change aK _ at hS;have HKD:=U Q;clear Q;go_in;go_wp2;go_loopg [5,8] xs.length (λk _ i wr=>∃j:Nat,i=.int .i64 (j:Int)/\j<=xs.length/\k=xs.length-j/\Pc.clear La.H4 xs j/\aY w wr)
 case atStart=>exact⟨0,rfl,by omega,by omega,Pc.fI _ _,cT⟩
 case round=>
  obtain⟨j,rfl,hj,Q,hr,J⟩:=hrel;replace hr:=U hr;change aK _ at Q;by_cases bY:j<xs.length
  case neg=>
   have jx:j=xs.length:=by omega
   subst jx;go_wp2;go_ret;exact⟨by rw[Pc.gd hr.Z];rfl,J⟩
  obtain⟨x,D⟩:=Pc.get_at bY;obtain⟨gx,ox,cs,rfl,hg,jr,hc⟩:=(hA.aE (dx hS J)).at_ D;have IB:wr.rangeAt gx (ox+j * 3) cs:=λi v hv=>by have:=(hc i v hv).1;simpa[Y.la,fK] using this
  have sc:cs.length=3:=Y.la.len jr;have Gp:=HKD.Z x (dV D);have gg:gx<wr.1.size:=aU (hS gx hg) J.size;replace D:=U D;have HCS:=U (kz.of jr);replace Gp:=U Gp;clear jr hc;go_wp2_with (refine wpList_load_mid rfl 105 (.tmp 14) rfl gx (ox+j * 3) rfl cs _ IB underlying105 rfl (by rw[sc];kernel_rfl) ?_);refine(WG _ x wr S (j2 hS J.size) HCS.Z Gp.1 Gp.2).mono ?_;clear IB;rintro e w1 ⟨rfl,ee⟩;cases ga:La.H4 x;all_goals
   change aK _ at ga;go_wp2_with fail
  ·go_roundg (xs.length-(j+1))
   case rel=>exact⟨j+1,by simp,by omega,rfl,Pc.ew hr.Z D.Z ga.Z,J.trans (ee.mono J.size)⟩
   case measure=>have:=Q.Z;omega
  ·go_ret;exact⟨by rw[Pc.iT hr.Z D.Z ga.Z];rfl,J.trans (ee.mono J.size)⟩
theorem ZL(v:Value)(xs:List La)(w:World)(S:Nat->Prop)(hS:∀b,S b->b<w.1.size)(h:ay Y.la false w S v xs)(Q:nP xs):
 Calls prog 61 #[v,.func (.func 59) #[] #[]] w λy w'=>y=.returned (.bool (xs.any La.H4))/\aY w w':=by
 go_in;go_wp2_with fail;refine(ZK v xs w S hS h Q).mono ?_;rintro y w1 ⟨rfl,I⟩;have hi:=U (Pc.nX La.H4 xs).2;go_wp2;go_ret;exact⟨by rw[<-hi.Z];rfl,I⟩
structure PbP(a:Ap)(t:Nt)(x:Nd):Prop where
 L:a.az.length<=1000
 len:x.h.bD.length=(Gr.ins a.az x.h.node).length
 w:(Tb.at_ a.T x.h.node x.h.state).waits.length<=1000
 ok:(∀o∈(V.fD a x.h (t.dp+1)).2,0<=o.1/\o.1<(t.aX.length:Int))/\(V.fD a x.h (t.dp+1)).2.length<=1000000
theorem S4(lo:Nat)(a:Ap)(t:Nt)(s:NA)(k:Int)(w:World)(hN:bU w lo a t s)(NK:0<=t.dp)(QT:nP t.aX)(hP:∀x,t.nodes[k.toNat]?=some x->PbP a t x):
 Calls prog 36 #[.pointer s.nb,k] w λy w'=>y=.returned (.int .i64 (V.ft a t k).1)/\bU w' lo a (V.ft a t k).2 s/\cM s w w':=by
 replace hN:=U hN;replace QT:=U QT;change aK _ at hP;go_in;go_wp2_with fail;refine(Ww lo a t s k w hN.Z).mono ?_;rintro _ _ ⟨rfl,rfl⟩;cases hh:V.has t k
 case false=>
  change aK _ at hh;have hr:V.ft a t k=(1,t):=by unfold V.ft;rw[hh.Z,aS rfl]
  change aK _ at hr;go_wp2;go_ret;rw[hr.Z];exact⟨rfl,hN.Z,cM.refl _ _⟩
 have Qx:0<=k/\k<(t.nodes.length:Int):=by unfold V.has at hh;simpa using hh
 obtain⟨kn,rfl⟩:∃n:Nat,k=(n:Int):=⟨k.toNat,by omega⟩;have Jr:kn<t.nodes.length:=by omega
 obtain⟨x,D⟩:=Pc.get_at Jr;have j9:=hP.Z x (by simpa using D);have jy:t.nodes.getD ((kn:Int).toNat) V.oH=x:=by rw[dG,dB,D];rfl
 change aK _ at hh jy;replace D:=U D;replace j9:=U j9;clear hP Qx;obtain⟨⟨e0,o0⟩,sf⟩:∃r,V.fD a x.h 1=r:=⟨_,rfl⟩;change aK _ at sf;go_upto_region 3 with fail
 refine rg 2048 λW2 I K=>?_;have qv:=hN.next I;have Gx:=cM.of (s:=s) I;clear I;have HN2:=U qv;obtain⟨gN,cN,xs,sg,sa,sx,rngN,-⟩:=qv.rN.get (i:=kn) D.Z;have k6:W2.cell? ⟨s.nb,6,none⟩=some (.slice gN t.nodes.length cN):=by rw[aD qv.box 6,<-sg];rfl
 have k9:W2.cell? ⟨s.nb,9,none⟩=some (.int .i64 t.dp):=aD qv.box 9;obtain⟨s9,ea,ex,Ha,-,Hx,-⟩:=wX 0 qv.ap (⟨xs,rfl,sa⟩:da Y.nd W2 (DS W2 s) (.agg xs.toArray) x);injection ex with ex
 obtain rfl:xs=(qE s9 x).toList:=by rw[<-ex]
 obtain⟨cA,o4⟩:=cJ (#[Value.int .i64 a.n,.slice s.gA a.az.length s.gk,.slice s.TA a.T.length s.Tk,.bool a.bF]);have sA:cA.size=4:=by rw[<-o4];rfl
 have po:da Y.ap W2 (DS W2 s) (.agg cA) a:=by rw[<-o4];exact qv.ap
 have rA:W2.rangeAt s.nb 2 cA.toList:=qv.box.bO (n:=4) (by rw[<-o4];kernel_rfl);have XX:=Hx.ho;have HAP:=U po;have HHO:=U XX;clear po o4 qv sg sa ex ea Ha Hx XX;obtain⟨NX,hNX⟩:=cJ (qE s9 x);rw[hNX] at rngN sx;refine tS 0 ?_;refine tK 1 ?_;refine aG [4] 14 ?_;go_wp2;refine tJ 5 ?_;refine aG [2,3,6,7,8,9,10] 6 ?_;go_wp2_with (first |refine wpList_load_mid rfl 27 (.tmp 17) rfl s.nb 2 rfl cA.toList _ rA underlying27 rfl (by rw[eK,sA];kernel_rfl) ?_|refine wpList_load_mid rfl 121 (.tmp 24) rfl gN (kn * 28) rfl NX.toList _ rngN underlying121 rfl (by rw[sx];kernel_rfl) ?_);refine oJ 11 ?_;go_wp2_with fail;clear k6 k9 rA;subst hNX;refine(Ck _ a x s9 (1) W2 (DS W2 s) (λb q=>q.lt) HAP.Z HHO.Z j9.L j9.len j9.w).mono ?_;rw[sf.Z];dsimp only;rintro _ w3 ⟨⟨u,rfl,-⟩,I⟩;have Mm:=HN2.next I;replace Gx:=Gx.trans (cM.of I);replace Mm:=U Mm;replace K:=K.Gt I;clear I rngN;go_wp2;refine⟨λ_=>K,?_⟩;refine aG [12,13,14,15,16] 0 ?_;go_wp2;clear K;refine eJ ?_;by_cases he:e0=0
 case neg=>
  have hr:V.ft a t (kn:Int)=(e0,t):=by unfold V.ft;rw[hh.Z,aO (by simp)];simp only[];rw[jy.Z,sf.Z,aS he]
  change aK _ at hr;go_wp2;go_ret;rw[hr.Z];exact⟨rfl,Mm.Z,Gx⟩
 subst he;obtain⟨aA,cap,hv,q1,q2⟩:=Mm.rA.form;have k0:w3.cell? ⟨s.nb,0,none⟩=some (.slice aA t.aX.length cap):=by rw[aD Mm.box 0,<-hv];rfl
 have hs:ay Y.la false w3 (λb=>b<w3.1.size) (.slice aA t.aX.length cap) t.aX:=by rw[<-hv];exact Mm.rA.on (λ_ q=>q.lt) λb q=>(Mm.rA.lt b q).2
 clear hv;go_wp2_with fail;refine(ZL _ t.aX w3 (λb=>b<w3.1.size) (λ_ q=>q) hs QT.Z).mono ?_;clear k0;rintro _ w4 ⟨rfl,I⟩;have SZ:=Mm.next I;have UG:=Gx.trans (cM.of I);have S3:=U SZ;clear I Gx;cases QU:t.aX.any La.H4
 case true=>
  have hr:V.ft a t (kn:Int)=(7,t):=by unfold V.ft;rw[hh.Z,aO (by simp)];simp only[];rw[jy.Z,sf.Z,aO (by simp),aS (show(t.aX.any λl=>decide (0<La.kV 6 l.l))=true from QU)]
  change aK _ at hr;clear QU SZ;go_wp2;go_ret;rw[hr.Z];exact⟨rfl,S3.Z,UG⟩
 change aK _ at QU;have k9a:w4.cell? ⟨s.nb,9,none⟩=some (.int .i64 t.dp):=aD SZ.box 9;clear SZ;by_cases OA:200<=t.dp
 case pos=>
  have hr:V.ft a t (kn:Int)=(2,t):=by unfold V.ft;rw[hh.Z,aO (by simp)];simp only[];rw[jy.Z,sf.Z,aO (by simp),aO (by rw[show(t.aX.any λl=>decide (0<La.kV 6 l.l))=false from QU.Z];simp),aS OA]
  change aK _ at hr;go_wp2;go_ret;rw[hr.Z];exact⟨rfl,S3.Z,UG⟩
 have hp3:t.dp<200:=by omega
 replace OA:=U OA;have hnf:=S3.box.mO 9;have Hj:=S3.box.lt;go_upto_region 12 with fail
 clear k9a hnf Hj;refine bK λW5 hW=>?_;have cW:bH s.nb w4 W5:=bH.eqv hW ((bH.refl _ _).bd 9 _);have ZA:G W5 s.nb (SU a {t with dp:=t.dp+1} s) 102:=G.eqv hW (S3.box.cC 9 _);clear hW;have zO:bU W5 lo a {t with dp:=t.dp+1} s:=S3.num (t2:={t with dp:=t.dp+1}) rfl rfl cW ZA;have hK5:=UG.trans (cM.only cW (.inl rfl));replace zO:=U zO;clear ZA cW UG;go_upto_region 12 with fail
 refine rg 32768 λW6 I K=>?_;have qv:=zO.next I;have Zt:=hK5.trans (cM.of I);clear I hK5;have HN2:=U qv;obtain⟨gN,cN,xs,sg,sa,sx,rngN,-⟩:=qv.rN.get (i:=kn) D.Z;have k6:W6.cell? ⟨s.nb,6,none⟩=some (.slice gN t.nodes.length cN):=by rw[aD qv.box 6,<-sg];rfl
 have k9:W6.cell? ⟨s.nb,9,none⟩=some (.int .i64 (t.dp+1)):=aD qv.box 9;obtain⟨s9,ea,ex,Ha,-,Hx,-⟩:=wX 0 qv.ap (⟨xs,rfl,sa⟩:da Y.nd W6 (DS W6 s) (.agg xs.toArray) x);injection ex with ex
 obtain rfl:xs=(qE s9 x).toList:=by rw[<-ex]
 obtain⟨cA,o4⟩:=cJ (#[Value.int .i64 a.n,.slice s.gA a.az.length s.gk,.slice s.TA a.T.length s.Tk,.bool a.bF]);have sA:cA.size=4:=by rw[<-o4];rfl
 have po:da Y.ap W6 (DS W6 s) (.agg cA) a:=by rw[<-o4];exact qv.ap
 have rA:W6.rangeAt s.nb 2 cA.toList:=qv.box.bO (n:=4) (by rw[<-o4];kernel_rfl);have XX:=Hx.ho;replace XX:=U XX;clear o4 qv sg sa ex ea Ha Hx;obtain⟨NX,hNX⟩:=cJ (qE s9 x);rw[hNX] at rngN sx;refine tS 0 ?_;refine tS 1 ?_;refine tS 2 ?_;refine tS 4 ?_;refine tK 5 ?_;refine aG [11] 15 ?_;go_wp2;refine tJ 12 ?_;refine aG [3,6,7,8,9,10,13,14] 6 ?_;go_wp2_with (first |refine wpList_load_mid rfl 27 (.tmp 56) rfl s.nb 2 rfl cA.toList _ rA underlying27 rfl (by rw[eK,sA];kernel_rfl) ?_|refine wpList_load_mid rfl 121 (.tmp 63) rfl gN (kn * 28) rfl NX.toList _ rngN underlying121 rfl (by rw[sx];kernel_rfl) ?_);refine oJ 15 ?_;go_wp2_with fail;clear k6 k9 rA;subst hNX;refine(Ck _ a x s9 (t.dp+1) W6 (DS W6 s) (λb q=>q.lt) po XX.Z j9.L j9.len j9.w).mono ?_;rintro _ w7 ⟨⟨u,rfl,hu⟩,I⟩;have rR:=HN2.next I;have hu7:ay Y.Z false w7 (DS w7 s) u (V.fD a x.h (t.dp+1)).2:=hu.aF λb q=>HN2.wY (bO.lo q) (bO.hi q);replace Zt:=Zt.trans (cM.of I);replace rR:=U rR;clear hu;replace K:=K.Gt I;clear I rngN;go_wp2;refine⟨λ_=>K,?_⟩;refine aG [16,17,18,19,20] 0 ?_;go_wp2;clear K;refine eJ ?_;go_wp2_with fail;refine(xc lo a {t with dp:=t.dp+1} s u (V.fD a x.h (t.dp+1)).2 w7 rR.Z hu7 j9.ok.1 (λy hy=>(QT y hy).2) j9.ok.2).mono ?_;rintro _ w8 ⟨rfl,Gz,hK8⟩;have hr:V.ft a t (kn:Int)=(0,{t with dp:=t.dp+1,aX:=V.du t.aX (V.fD a x.h (t.dp+1)).2}):=by
  unfold V.ft;rw[hh.Z,aO (by simp)];simp only[];rw[jy.Z,sf.Z,aO (by simp),aO (by rw[show(t.aX.any λl=>decide (0<La.kV 6 l.l))=false from QU.Z];simp),aO (by have:=OA.Z;omega)]
 change aK _ at hr;go_wp2;go_ret;rw[hr.Z];exact⟨rfl,Gz,Zt.trans hK8⟩
end Go.Proofs.YtmgahjkopiaglaaGreat
namespace Go.Proofs.YtmgahjkopiaglaaGreat
open Go.RowKit Go.Proofs.Tryz Go.Maps
def pF(ab:DataW Unit)(l:List (Int×Fr)):Prop:=∀(k:Int)(z:DataW Unit),ab.atKey (.int .i64 k) z=if l.any (λo=>o.1==k) then .lit (.int .i64 (V.fY l k)) else z
theorem II(l:List (Int×Fr))(o:Int×Fr)(k:Int):V.fY (l++[o]) k=V.fY l k+if o.1=k then 1 else 0:=by
 unfold V.fY;by_cases h:o.1=k<;>simp[qG,h]
theorem IJ{l:List (Int×Fr)}{k:Int}(h:l.any (λo=>o.1==k)=false):V.fY l k=0:=by
 unfold V.fY;rw[List.filter_eq_nil_iff.2 λo q=>uL.1 h o q];rfl
theorem EB(l:List (Int×Fr))(k:Int):0<=V.fY l k/\V.fY l k<=l.length:=by
 unfold V.fY;have:=zR (λo:Int×Fr=>o.1==k) l;omega
theorem pF.nil:pF (.map []) []:=λ_ _=>rfl
theorem pF.get{ab:DataW Unit}{l:List (Int×Fr)}{k c:Int}(h:pF ab l)(hc:ab.atKey (.int .i64 k) (.lit (.int .i64 0))=.lit (.int .i64 c)):c=V.fY l k:=by
 rw[h k] at hc;split at hc
 ·injection hc with hc;injection hc with _ hc;exact hc.symm
 ·next q=>injection hc with hc;injection hc with _ hc;rw[<-hc,IJ (tF.2 q)]
theorem pF.put{ab:DataW Unit}{l:List (Int×Fr)}{o:Int×Fr}{c:Int}(h:pF ab l)(hm:IsMap ab)(hc:c=V.fY l o.1+1):pF (ab.put (.int .i64 o.1) (.lit (.int .i64 c))) (l++[o]):=by
 intro k z;rw[II,List.any_append];by_cases e:k=o.1
 ·subst e;rw[zP hm (show WideAt.IsKeyLit (.int .i64 o.1) from trivial)];simp[hc]
 ·rw[EO (by simpa using e),h k z];have e2:(o.1==k)=false:=by simpa using λq:o.1=k=>e q.symm
  simp only[tG,List.any_nil,e2,Bool.or_false,aO (λq:o.1=k=>e q.symm),Int.add_zero]
theorem pF.has{ab:DataW Unit}{l:List (Int×Fr)}(h:pF ab l)(k:Int):Maps.has ab (.int .i64 k)=l.any (λo=>o.1==k):=by
 cases q:l.any (λo=>o.1==k)
 ·exact Maps.has_false_of_atKey λz=>by rw[h k z,q];rfl
 ·exact Maps.has_true_of_atKey λz=>by rw[h k z,q];rfl
structure oU(ls:List La)(Z:List (Int×Fr))(left:Lit->Bool):Prop where
 on:∀k,left (.int .i64 k)=true->Z.any (λo=>o.1==k)=true
 rest:∀o∈Z,left (.int .i64 o.1)=false->La.fits (ls.getD o.1.toNat La.zero) (V.fY Z o.1)=true
theorem oU.start{ls:List La}{Z:List (Int×Fr)}{ab:DataW Unit}(h:pF ab Z):oU ls Z (Maps.has ab):=
 ⟨λk q=>by rw[<-h.has];exact q,λo ho q=>by rw[h.has,uL] at q;exact absurd (by simp) (q o ho)⟩
theorem oU.step{ls:List La}{Z:List (Int×Fr)}{left:Lit->Bool}{x:Int}(h:oU ls Z left)(D:La.fits (ls.getD x.toNat La.zero) (V.fY Z x)=true):oU ls Z (λz=>left z&& !z.sameKey (.int .i64 x)):=by
 refine⟨λk q=>h.on k (by simp only[cQ] at q;exact q.1),λo ho q=>?_⟩;by_cases e:o.1=x
 ·rw[e];exact D
 ·refine h.rest o ho ?_;have e3:(Lit.int IntKind.i64 o.1).sameKey (.int .i64 x)=false:=by simp[Lit.sameKey,e]
  simpa[e3] using q
theorem oU.done{ls:List La}{Z:List (Int×Fr)}{left:Lit->Bool}(h:oU ls Z left)(h0:∀z,left z=false):V.jn ls Z=true:=by
 unfold V.jn;rw[eT];exact λo ho=>h.rest o ho (h0 _)
theorem oU.ZM{ls:List La}{Z:List (Int×Fr)}{left:Lit->Bool}{x:Int}(h:oU ls Z left)(hl:left (.int .i64 x)=true)(D:La.fits (ls.getD x.toNat La.zero) (V.fY Z x)=false):V.jn ls Z=false:=by
 obtain⟨o,ho,e⟩:=qI.1 (h.on x hl);obtain rfl:o.1=x:=by simpa using e
 unfold V.jn;rw[List.all_eq_false];exact⟨o,ho,by rw[D];simp⟩
theorem pF.many{ab:DataW Unit}{l:List (Int×Fr)}{k c:Int}(h:pF ab l)(hc:∀z,ab.atKey (.int .i64 k) z=.lit (.int .i64 c)):c=V.fY l k:=h.get (hc _)
theorem rz{a:Ap}{t:Nt}{k i e:Int}{x x1:Nd}{Z:List (Int×Fr)}(h:V.has t k=true)(D:t.nodes.getD k.toNat V.oH=x)(he:V.jm a x i=(e,x1,Z))(fz:e≠0):V.gU a t k i=(e,t):=by
 unfold V.gU;rw[aO (by simp[h]),D,he];split
 ·next q=>injection q with q _;exact absurd q fz
 ·next q=>injection q with q _;rw[q]
theorem pG{a:Ap}{t:Nt}{k i:Int}{x x1:Nd}{Z:List (Int×Fr)}(h:V.has t k=true)(D:t.nodes.getD k.toNat V.oH=x)(he:V.jm a x i=(0,x1,Z)):
 V.gU a t k i=if V.jn t.aX Z then(0,{t with nodes:=t.nodes.set k.toNat x1,aX:=V.du t.aX Z}) else(6,t):=by
 unfold V.gU;rw[aO (by simp[h]),D,he];rfl
def vB(w:World)(b:Nat)(l:List (Int×Fr)):Prop:=∃(ab:DataW Unit)(n:Nat),w.ownsMap prog 3 (plainElem prog 3) b n ab/\n<=l.length/\pF ab l
theorem vB.next{w w':World}{b:Nat}{l:List (Int×Fr)}(h:vB w b l)(I:aY w w'):vB w' b l:=by
 obtain⟨ab,n,F,R,h3⟩:=h;exact⟨ab,n,F.kept (row:=none) ⟨I.os,I.tape,I.output,I.size,λi hi _=>I.block i hi⟩ (by simp),R,h3⟩
instance{w w':World}{b:Nat}{l:List (Int×Fr)}:Nx w w' (vB w b l) (vB w' b l):=⟨λq p=>p.next q⟩
theorem WH{n:Nat}(h:n<=1000000):(Lit.int .i64 (n:Int)).wf=true:=sP (by omega) (by omega)
theorem ad0(w:World):(zeroValue 3).run prog w=.ok (.int .i64 0) w:=by kernel_rfl
structure PkP(a:Ap)(t:Nt)(x:Nd)(k:Int):Prop where
 L:a.az.length<=1000
 len:x.h.Z.length=(Gr.outs a.az x.h.node).length
 sz:x.h.sized
 row:∀r∈x.h.Z,r.length<=500
 st:0<=x.h.steps/\x.h.steps<=1000000
 pk:∀p∈(Tb.at_ a.T x.h.node x.h.state).dg,p.eo.length<=1000/\∀s∈p.eo,0<=Gr.find a.az x.h.node s.1
 sl:(V.jW a x.h k).2.2.length<=1000
 ok:(∀o∈(V.jm a x k).2.2,0<=o.1/\o.1<(t.aX.length:Int))/\(V.jm a x k).2.2.length<=1000
def Cs(ls:List La):Prop:=nP ls/\(∀x∈ls,1<=x.cap/\x.cap<=20)/\ls.length<=1000
theorem WI(lo:Nat)(a:Ap)(t:Nt)(s:NA)(k i:Int)(w:World)(hN:bU w lo a t s)(QT:Cs t.aX)(hP:∀x,t.nodes[k.toNat]?=some x->PkP a t x i):
 Calls prog 33 #[.pointer s.nb,k,i] w λy w'=>y=.returned (.int .i64 (V.gU a t k i).1)/\bU w' lo a (V.gU a t k i).2 s/\cM s w w':=by
 have Bl:=@run_makeMap prog;replace hN:=U hN;replace QT:=U QT;change aK _ at hP;go_in;go_wp2_with fail;refine(Ww lo a t s k w hN.Z).mono ?_;rintro _ _ ⟨rfl,rfl⟩;cases hh:V.has t k
 case false=>
  change aK _ at hh;have hr:V.gU a t k i=(1,t):=by unfold V.gU;rw[hh.Z,aS rfl]
  change aK _ at hr;go_wp2;go_ret;rw[hr.Z];exact⟨rfl,hN.Z,cM.refl _ _⟩
 have Qx:0<=k/\k<(t.nodes.length:Int):=by unfold V.has at hh;simpa using hh
 obtain⟨kn,rfl⟩:∃n:Nat,k=(n:Int):=⟨k.toNat,by omega⟩;have Jr:kn<t.nodes.length:=by omega
 obtain⟨x,D⟩:=Pc.get_at Jr;have j9:=hP.Z x (by simpa using D);have jy:t.nodes.getD ((kn:Int).toNat) V.oH=x:=by rw[dG,dB,D];rfl
 change aK _ at hh jy;replace D:=U D;replace j9:=U j9;clear hP Qx;obtain⟨⟨e0,x1,Z⟩,sf⟩:∃r,V.jm a x i=r:=⟨_,rfl⟩;have iZ:=j9.ok;rw[sf] at iZ;change aK _ at sf;replace iZ:=U iZ;go_upto_region 3 with fail
 obtain⟨w,rfl⟩:∃W,W=w:=⟨_,rfl⟩;go_cut [7,8,9] (λp7 u8 u9 wx=>∃(g7:Nat)(X:Array Value)(O:Value),p7=.pointer g7/\O=u8/\u9=.int .i64 e0/\w.1.size<=g7/\aY w wx/\X.size=28/\X.all (·.oneCell')=true/\G wx g7 X 121/\aK (e0=0->da Y.nd wx (DS wx {s with ex:=λb=>s.ex b\/b=g7}) (.agg X) x1/\ay Y.Z false wx (DS wx {s with ex:=λb=>s.ex b\/b=g7}) O Z))
 case first=>
  refine rg 4096 λW2 I K=>?_;have hA:=I;have hD:=bI W2.1.size W2;have qv:=hN.next I;have vi:=I.size;clear I;obtain⟨gN,cN,xs,sg,sa,sx,rngN,thN⟩:=qv.rN.get D.Z;have xd:da Y.nd W2 (DS W2 s) (.agg xs.toArray) x:=⟨xs,rfl,sa⟩;have k6:W2.cell? ⟨s.nb,6,none⟩=some (.slice gN t.nodes.length cN):=by rw[aD qv.box 6,<-sg];rfl
  have mZ:=qv.ap;obtain⟨cA,o4⟩:=cJ (#[Value.int .i64 a.n,.slice s.gA a.az.length s.gk,.slice s.TA a.T.length s.Tk,.bool a.bF]);have sA:cA.size=4:=by rw[<-o4];rfl
  have po:da Y.ap W2 (DS W2 s) (.agg cA) a:=by rw[<-o4];exact mZ
  have rA:W2.rangeAt s.nb 2 cA.toList:=qv.box.bO (n:=4) (by rw[<-o4];kernel_rfl);clear mZ sa o4 qv thN sg;refine tS 0 ?_;refine tK 1 ?_;refine aG [4] 18 ?_;go_wp2;refine tJ 5 ?_;refine aG [2,3,6,7,8,9,10,11] 9 ?_;go_wp2_with (first |refine wpList_load_mid rfl 27 (.tmp 22) rfl s.nb 2 rfl cA.toList _ rA underlying27 rfl (by rw[eK,sA];kernel_rfl) ?_|refine wpList_load_mid rfl 121 (.tmp 29) rfl gN (kn * 28) rfl xs _ rngN underlying121 rfl (by rw[sx];kernel_rfl) ?_);refine wJ 12 17 ?_ ?_
  ·go_wp2_with fail;clear k6 rngN rA;refine(Eu _ _ a x i W2 (DS W2 s) (λb q=>q.lt) po xd j9.L j9.len j9.sz j9.row j9.st j9.pk j9.sl).mono ?_;rw[sf.Z];dsimp only;rintro _ V1 ⟨I,X,O,rfl,sX,oX,HM⟩;have J6:W2.1.size<=V1.1.size:=I.size;refine iX I hA hD K ?_;clear I hA hD K;intro zz1 hA hD K;have hC:=bI V1.1.size V1;go_wp2;refine⟨λ_=>K,?_⟩;refine aG [13,14] 6 ?_;go_wp2;refine sJ 15 ?_;refine tK 16 ?_;refine aG [17] 3 ?_;go_wp2;refine fX ?_;refine nb λV2 b7 I=>?_;have b7l:=b7.lt;refine ja I hA hD K hC ?_;clear I hA hD K hC;intro zz2 hA hD K hC;refine aG [18,19,20] 0 ?_;go_wp2_with (refine wpList_store_mid rfl 121 (.tmp 7) (.tmp 33) rfl V1.1.size 0 X rfl rfl (b7.cR (n:=X.size) (by rw[sX];rfl)) (by rw[sX];kernel_rfl) oX ?_;rw[aH]);clear K;refine eJ ?_;go_wp2;go_meet;have zC:=hC.size;have zA:=hA.size;have zD:=hD.size;have qB:(cz V2 V1.1.size 0 X.toList).1.size=V2.1.size:=by rw[bR]
   refine⟨V1.1.size,X,O,rfl,rfl,rfl,by omega,aI (by omega) _ _ _ hA,sX,oX,b7.cm X (by rw[sX];rfl),U (λq0=>?_)⟩;obtain⟨m1,m2⟩:=HM.Z q0;have hq:∀b,EW (DS W2 s) W2.1.size V1 b->b<V1.1.size/\b≠V1.1.size:=λb q=>q.elim (λq=>by have:=q.lt;omega) λq=>by omega
   have Q:∀b,EW (DS W2 s) W2.1.size V1 b->(cz V2 V1.1.size 0 X.toList).1[b]?=V1.1[b]?:=λb q=>(bV (hq b q).2 _ _ _).trans (hC.block b (hq b q).1);have hw:∀b,EW (DS W2 s) W2.1.size V1 b->DS (cz V2 V1.1.size 0 X.toList) {s with ex:=λb=>s.ex b\/b=V1.1.size} b:=λb q=>by
    have q2:=hq b q;exact q.elim (λq=>⟨⟨by have:=q.lt;omega,q.1.2⟩,λr=>r.elim q.2 λr=>by omega⟩) λq=>⟨hN.eP (by omega) (by omega),λr=>r.elim (λr=>by have:=hN.zN b r;omega) λr=>by omega⟩
   exact⟨(m1.aE Q).aF hw,(m2.aE Q).aF hw⟩
  ·go_wp2;try refine cD (λ_=>K.trans (Ext.below (cT.alloc bE _) bE)) ?_
   refine nb λV3 b7 I=>?_;have b7l:=b7.lt;refine iX I hA hD K ?_;clear I hA hD K;intro zz3 hA hD K;refine oN 12 ?_;go_wp2_with fail;clear k6 rngN rA;refine(Eu _ _ a x i V3 (DS W2 s) (λb q=>aU q.lt hD.size) (po.aE λb q=>hD.block b q.lt) (xd.aE λb q=>hD.block b q.lt) j9.L j9.len j9.sz j9.row j9.st j9.pk j9.sl).mono ?_;rw[sf.Z];dsimp only;rintro _ V4 ⟨I,X,O,rfl,sX,oX,HM⟩;have J6:V3.1.size<=V4.1.size:=I.size;refine ja I hA hD K b7 ?_;clear I hA hD K b7;intro zz4 hA hD K b7;have hC:=bI V4.1.size V4;go_wp2;refine⟨λ_=>K,?_⟩;refine aG [13,14] 5 ?_;go_wp2;refine sJ 15 ?_;refine tK 16 ?_;refine aG [18,19,20] 0 ?_;go_wp2_with (refine wpList_store_mid rfl 121 (.tmp 7) (.tmp 33) rfl W2.1.size 0 X rfl rfl (b7.cR (n:=X.size) (by rw[sX];rfl)) (by rw[sX];kernel_rfl) oX ?_;rw[aH]);clear K;refine eJ ?_;go_wp2;go_meet;have zC:=hC.size;have zA:=hA.size;have zD:=hD.size;have qB:(cz V4 W2.1.size 0 X.toList).1.size=V4.1.size:=by rw[bR]
   refine⟨W2.1.size,X,O,rfl,rfl,rfl,by omega,aI (by omega) _ _ _ hA,sX,oX,b7.cm X (by rw[sX];rfl),U (λq0=>?_)⟩;obtain⟨m1,m2⟩:=HM.Z q0;have hq:∀b,EW (DS W2 s) V3.1.size V4 b->b<V4.1.size/\b≠W2.1.size:=λb q=>q.elim (λq=>by have:=q.lt;omega) λq=>by omega
   have Q:∀b,EW (DS W2 s) V3.1.size V4 b->(cz V4 W2.1.size 0 X.toList).1[b]?=V4.1[b]?:=λb q=>(bV (hq b q).2 _ _ _).trans (hC.block b (hq b q).1);have hw:∀b,EW (DS W2 s) V3.1.size V4 b->DS (cz V4 W2.1.size 0 X.toList) {s with ex:=λb=>s.ex b\/b=W2.1.size} b:=λb q=>by
    have q2:=hq b q;exact q.elim (λq=>⟨⟨by have:=q.lt;omega,q.1.2⟩,λr=>r.elim q.2 λr=>by omega⟩) λq=>⟨hN.eP (by omega) (by omega),λr=>r.elim (λr=>by have:=hN.zN b r;omega) λr=>by omega⟩
   exact⟨(m1.aE Q).aF hw,(m2.aE Q).aF hw⟩
 case rest=>
 obtain⟨g7,X,O,rfl,rfl,rfl,OW,hA,sX,oX,b7,hM⟩:=hcut;obtain⟨Wc,rfl⟩:∃W,W=wc:=⟨_,rfl⟩;have b7l:=b7.lt;have zA:=hA.size;have zO:bU Wc lo a t {s with ex:=λb=>s.ex b\/b=g7}:=hN.lS hA (λb=>b=g7) (λb q=>by subst q;omega);replace zO:=U zO;by_cases he:e0=0
 case neg=>
  have HR:=U (rz hh.Z jy.Z sf.Z he);have b0:(e0 !=0)=true:=by simpa using he
  clear he;go_wp2;go_ret;rw[HR.Z];exact⟨rfl,zO.drop,cM.of hA⟩
 subst he;have HR:=U (pG hh.Z jy.Z sf.Z);obtain⟨AA,Gv⟩:=hM.Z rfl;obtain⟨oA,ok,rfl,_⟩:=id Gv;have bb:=Gv.bounds;replace AA:=U AA;replace Gv:=U Gv;have XY:=U b7;replace hA:=U hA;clear hM b7;go_upto_region 7 with fail
 refine bK λW6 hW=>?_;have xZ:=Below.eqv hW (cT.alloc bE _);have K7:vB W6 Wc.1.size []:=by rw[<-hW];exact⟨_,0,zY _ _ _ _,bE,pF.nil⟩
 have z6:Wc.1.size<W6.1.size:=by obtain⟨ab,n,h,_⟩:=K7;exact h.lt
 clear hW;obtain⟨mb,hmb⟩:=cJ Wc.1.size;have ad2:Wc.1.size<=mb:=ca hmb;rw[hmb] at K7⊢;have HMY:=U K7;replace xZ:=U xZ;clear K7 hmb;go_wp2;go_loopg [12,42] Z.length (λq _ u wr=>∃j:Nat,u=.int .i64 (j:Int)/\j<=Z.length/\q=Z.length-j/\vB wr mb (Z.take j)/\aY Wc wr)
 case atStart=>exact⟨0,rfl,by omega,by omega,HMY.Z,xZ.Z⟩
 case round=>
  obtain⟨j,rfl,hj,Q,K7,J⟩:=hrel;change aK _ at Q;by_cases bY:j<Z.length
  case pos=>
   obtain⟨o,ho⟩:=Pc.get_at bY;have kH:=Pc.de ho;have Gq:=iZ.1 o (dV ho);obtain⟨⟨lk,f⟩,rfl⟩:∃p,p=o:=⟨_,rfl⟩;dsimp only at Gq;obtain⟨ln,rfl⟩:∃n:Nat,lk=(n:Int):=⟨lk.toNat,by omega⟩;obtain⟨gO,oO,cs,rfl,hgO,jr,hcO⟩:=(Gv.soft.arr.aE λb q=>J.block b q.lt).at_ ho;have sc:cs.length=10:=Y.Z.len jr;have oc:cs.toArray.all (·.oneCell')=true:=all_oneCell_toArray (Y.Z.one jr);have e0:cs[0]?=some (.int .i64 (ln:Int)):=by obtain⟨v0,v1,rfl,_⟩:=jr;rfl
   have IB:wr.rangeAt gO (oO+j * 10) cs:=λi v hv=>by have:=(hcO i v hv).1;simpa[Y.Z,fK] using this
   replace kH:=U kH;replace K7:=U K7;clear jr hcO ho;have hO9:gO<wr.1.size:=aU hgO.lt J.size;go_upto_region 10 with(first |refine wpList_load_mid rfl 151 (.tmp 44) rfl gO (oO+j * 10) rfl cs _ IB underlying151 rfl (by rw[sc];kernel_rfl) ?_|(refine wpList_store_mid rfl 151 (.tmp 12) (.tmp 45) rfl wr.1.size 0 cs.toArray rfl rfl ((G.new wr _ _).cR (n:=cs.toArray.size) (by simp[sc])) (by rw[jN,sc];kernel_rfl) oc ?_;rw[aH]))
   refine bK λW1 hW=>?_;have bo:G W1 wr.1.size cs.toArray 151:=G.eqv hW ((G.new wr _ _).cm cs.toArray (by simp[sc]));have I:aY wr W1:=Below.eqv hW (aI bE _ _ _ (cT.alloc bE _));clear hW IB hO9 hgO;have ad3:=K7.next I;have c0:W1.cell? ⟨wr.1.size,0,none⟩=some (.int .i64 (ln:Int)):=(aD bo 0).trans (by simpa using e0);have qU:=J.trans (I.mono J.size);obtain⟨ab,n,cG,hn,Nc⟩:=ad3;have jA:keyOf prog 3 (.int .i64 (ln:Int))=some (.int .i64 (ln:Int)):=keyOf_int_mk underlying3 (WH (by have:=QT.2.2;omega));have nO:n<maxLen:=by have:=iZ.2;rw[dL] at hn;unfold maxLen;omega
   replace Nc:=U Nc;replace qU:=U qU;clear bo I;go_wp2_with (first
    |(at_lookup;refine sh _ rfl _ _ 147 rfl 3 3 .i64 (int_keyed underlying3) underlying147 underlying3 (ad0 _) mb n _ rfl cG _ _ rfl jA ?_;intro c jK Rw)
    |(at_mapUpdate;refine wpList_mapUpdate_own _ rfl _ _ _ 147 rfl 3 3 (int_keyed underlying3) underlying147 _ mb n _ rfl cG nO _ _ _ rfl rfl jA _ [] (wj underlying3 (wrap64_wf _)) ?_;intro w1 ik xJ)
    |go_in)
   go_roundg (Z.length-(j+1))
   case rel=>
    have hc:=Nc.get jK;have hm:=EB (Z.take j) (ln:Int);have hcw:wrap64 (c+1)=V.fY (Z.take j) (ln:Int)+1:=by
     rw[dL] at hm;rw[<-hc];have:=iZ.2;unfold wrap64;omega
    refine⟨j+1,by simp,by omega,rfl,?_,qU.grown xJ qU.size (λj hj=>by cases hj;exact ad2)⟩;rw[kH.Z];exact⟨_,_,ik,by rw[dh];exact Nat.succ_le_succ hn,Nc.put (o:=((ln:Int),f)) cG.isMap (by simpa using hcw)⟩
   case measure=>have:=Q.Z;omega
  obtain⟨wq,rfl⟩:∃W,W=wr:=⟨_,rfl⟩;obtain rfl:j=Z.length:=by omega
  rw[iw] at K7;obtain⟨ab,n,cG,hn,Nc⟩:=K7;replace Nc:=U Nc;replace J:=U J;have zr:=J.size;go_wp2_with (first
   |(at_range;refine wpList_range_own _ rfl _ 147 rfl 3 3 (int_keyed underlying3) underlying147 _ mb n _ rfl cG ?_;intro w0 WJ Mf Gs)
   |go_in)
  go_frame;go_loopg [13,14] (Maps.size ab) (λq _ _ wx=>∃left:Lit->Bool,wx.ranges prog 3 (plainElem prog 3) mb wq.1.size n ab left q/\oU t.aX Z left/\aY Wc wx)
  case atStart=>exact⟨_,WJ,oU.start Nc.Z,J.grown Mf J.size (λj hj=>by cases hj)⟩
  case round=>
   obtain⟨left,H6,pe,XZ⟩:=hrel;replace pe:=U pe;replace XZ:=U XZ;have zx:=XZ.size;go_wp2_with (first
    |(at_next;refine wpList_next_ranges_ii _ rfl _ rfl 3 3 .i64 .i64 (int_keyed underlying3) underlying3 underlying3 mb wq.1.size n _ _ _ rfl H6 ?_ ?_)
    |go_in)
   ·intro _ T8;have rV:V.jn t.aX Z=true:=pe.done T8;rw[rV,aS rfl] at HR;clear H6 WJ cG T8;go_upto_region 17 with fail
    refine rg 0 λW3 I K=>?_;have fO:=dW XZ.Z I;have rR:=zO.next fO;have b7:=XY.next fO;have AK:cM s w W3:=(cM.of hA.Z).trans (cM.of fO);have QP:da Y.nd W3 (DS W3 {s with ex:=λb=>s.ex b\/b=g7}) (.agg X) x1:=(AA.aE λb q=>fO.block b q.lt).aF (DS.up fO.size);have ad4:ay Y.Z false W3 (DS W3 {s with ex:=λb=>s.ex b\/b=g7}) (.slice oA Z.length ok) Z:=(Gv.aE λb q=>fO.block b q.lt).aF (DS.up fO.size);have HN7:=U rR;have z3:=fO.size;clear K I;obtain⟨gN,cN,xs,sg,-,-,-,thN⟩:=rR.rN.get (i:=kn) D.Z;have k6:W3.cell? ⟨s.nb,6,none⟩=some (.slice gN t.nodes.length cN):=by rw[aD rR.box 6,<-sg];rfl
    have Gz:bU (cz W3 gN (kn * 28) X.toList) lo a {t with nodes:=t.nodes.set kn x1} {s with ex:=λb=>s.ex b\/b=g7}:=rR.Wj sg Jr QP.Mj;have eN:s.vN.ownBlock=some gN:=by rw[show s.vN=_ from sg];rfl
    replace Gz:=U Gz;have ZC:=U eN;clear rR QP sg eN fO;refine aG [0] 7 ?_;go_wp2;refine tJ 1 ?_;refine aG [2,3,4,5,6,7] 0 ?_;go_wp2_with (first |refine wpList_load_mid rfl 121 (.tmp 7) rfl g7 0 rfl X.toList _ (b7.bO (n:=28) (by rw[<-sX];simp)) underlying121 rfl (by rw[eK,sX];kernel_rfl) ?_|(refine wpList_store_mid rfl 121 (.tmp 76) (.tmp 75) rfl gN (kn * 28) X rfl rfl (by rw[sX];exact thN) (by rw[sX];kernel_rfl) oX ?_;rw[aH]));refine fX ?_;clear k6 thN;refine cd λW4 hW=>?_;refine eN ?_;have cW:bH gN W3 W4:=by rw[<-hW];exact dQ _ _ _
    have Ey:bU W4 lo a {t with nodes:=t.nodes.set kn x1} {s with ex:=λb=>s.ex b\/b=g7}:=by rw[<-hW];exact Gz.Z
    clear hW;have UP:cM s W3 W4:=cM.only cW (.inr (.inr (.inr ZC.Z)));have WK:cM {s with ex:=λb=>s.ex b\/b=g7} W3 W4:=cM.only cW (.inr (.inr (.inr ZC.Z)));have ad5:ay Y.Z false W4 (DS W4 {s with ex:=λb=>s.ex b\/b=g7}) (.slice oA Z.length ok) Z:=(ad4.aE WK.ds).aF (DS.up WK.size);have tY:=AK.trans UP;clear cW AK UP WK Gz b7;go_wp2_with fail;refine(xc lo a {t with nodes:=t.nodes.set kn x1} {s with ex:=λb=>s.ex b\/b=g7} _ Z W4 Ey ad5 iZ.1 (λy hy=>(QT.1 y hy).2) (by have:=iZ.2;omega)).mono ?_;rintro _ w5 ⟨rfl,Le,uo⟩;have Lf:=tY.trans uo.un;go_wp2;go_ret;rw[HR.Z];exact⟨rfl,Le.drop,Lf⟩
   ·intro x9 c w1 ad6 XA Rw RE jK S5 bY lV j8 Sj;have RT:=XZ.grown lV XZ.size (λj hj=>by cases hj;exact bT zr bE);have rR:=zO.next RT;obtain rfl:=Nc.many jK;obtain⟨o9,ho9,e9⟩:=qI.1 (pe.on x9 RE);obtain rfl:o9.1=x9:=by simpa using e9
    have Gq:=iZ.1 o9 ho9;obtain⟨ln,sM⟩:∃n:Nat,o9.1=(n:Int):=⟨o9.1.toNat,by omega⟩;rw[sM] at RE S5 Sj Gq⊢;have wV:ln<t.aX.length:=by omega
    obtain⟨y,hy⟩:=Pc.get_at wV;have RB:=QT.1 y (dV hy);have hy3:=QT.2.1 y (dV hy);have hyd:t.aX.getD ((ln:Int).toNat) La.zero=y:=by rw[dG,dB,hy];rfl
    obtain⟨gA,cA,xs,qF,sa,sx,rngA,-⟩:=rR.rA.get hy;have k0:w1.cell? ⟨s.nb,0,none⟩=some (.slice gA t.aX.length cA):=by rw[aD rR.box 0,<-qF];rfl
    have vr:=kz.of sa;replace vr:=U vr;replace RB:=U RB;change aK _ at hyd;replace RE:=U RE;replace RT:=U RT;replace hy3:=U hy3;replace S5:=U S5;clear hy sa qF rR jK ho9 e9 cG H6 WJ;obtain⟨m9,hm9⟩:=cJ (V.fY Z (ln:Int));have HM9:=U hm9;rw[hm9] at Sj⊢;clear hm9;cases rV:La.fits y m9
    case true=>
     change aK _ at rV;go_wp2_with (refine wpList_load_mid rfl 105 (.tmp 65) rfl gA (ln * 3) rfl xs _ rngA underlying105 rfl (by rw[sx];kernel_rfl) ?_);refine(LR (a:=y) (n:=m9) (q:=true) (vr.Mx λb q=>q.lt) hy3.Z RB.1 (by have:=RB.2;omega) rV.Z).mono ?_;rintro _ w2 ⟨rfl,I⟩;go_wp2;go_roundg ad6
     case rel=>exact⟨_,S5.kept (row:=none) ⟨I.os,I.tape,I.output,I.size,λi hi _=>I.block i hi⟩ (by simp) (by simp),pe.step (by rw[hyd.Z,HM9.Z];exact rV.Z),dW RT.Z I⟩
     case measure=>exact bY
    case false=>
     change aK _ at rV;have uf:V.jn t.aX Z=false:=pe.ZM RE.Z (by rw[hyd.Z,HM9.Z];exact rV.Z);rw[uf,aO (by simp)] at HR;clear uf;go_wp2_with (refine wpList_load_mid rfl 105 (.tmp 65) rfl gA (ln * 3) rfl xs _ rngA underlying105 rfl (by rw[sx];kernel_rfl) ?_);refine(LR (a:=y) (n:=m9) (q:=false) (vr.Mx λb q=>q.lt) hy3.Z RB.1 (by have:=RB.2;omega) rV.Z).mono ?_;rintro _ w2 ⟨rfl,I⟩;go_wp2;go_ret;rw[HR.Z];exact⟨rfl,(zO.next (dW RT.Z I)).drop,(cM.of hA.Z).trans (cM.of (dW RT.Z I))⟩
end Go.Proofs.YtmgahjkopiaglaaGreat
namespace Go.Proofs.YtmgahjkopiaglaaGreat
open Go.RowKit Go.Proofs.Tryz
theorem IK{l:List (Int×Int)}{x y:Int}(h:(x,y)∈l):0<=Gr.find l x y:=by
 unfold Gr.find;rw[(Pc.tO _ _).2,qI];exact⟨_,h,by simp⟩
theorem F4{l:List (Int×Int)}{x y:Int}(h:0<=Gr.find l x y):(x,y)∈l:=by
 unfold Gr.find at h;rw[(Pc.tO _ _).2,qI] at h;obtain⟨z,hz,e⟩:=h;exact eM e▸hz
theorem S6{l:List (Int×Int)}{x y:Int}(h:0<=Gr.find l x y):Gr.find l x y<(l.length:Int):=by
 unfold Gr.find at h⊢;obtain⟨j,e,hj⟩:=mH h;omega
structure fy(a:Ap)(N:Nat):Prop where
 T:Tb.right a.n a.az a.T=true
 n:a.n=(N:Int)
 n1:1<=N
 n6:N<=6
 L:a.az.length<=30
 lk:∀x∈a.az,(0<=x.1/\x.1<(N:Int))/\(0<=x.2/\x.2<(N:Int))/\(x.2,x.1)∈a.az
 tn:a.T.length=N
 nd:∀(i:Nat)(x:iD),a.T[i]?=some x->(0<=x.start/\x.start<(x.aL.length:Int))/\∀z∈x.aL,((∀w∈z.waits,0<=Gr.find a.az w i)/\z.waits.length<=6)/\
  (∀p∈z.dg,(0<=p.next/\p.next<(x.aL.length:Int))/\p.eo.length<=4/\∀s∈p.eo,0<=Gr.find a.az i s.1)/\∀t∈z.dd,0<=t.next/\t.next<(x.aL.length:Int)
theorem QV{l:List Int}(h0:∀w∈l,0<=w)(h:∀i,i<l.length->0<i->¬l.getD i 0<=l.getD (i-1) 0):∀j,j<l.length->(j:Int)<=l.getD j 0:=by
 intro j;induction j with
 |zero=>intro hj;have:=h0 l[0] (nc hj);simpa[dB,eu hj] using this
 |succ j ih=>
  intro hj;have F:=ih (by omega);have R:=h (j+1) hj (by omega);simp only[Nat.add_sub_cancel] at R;omega
theorem Ct{n lo hi:Int}(h:jI n lo hi=true):lo<=n/\n<hi:=by
 unfold jI at h;simpa only[cQ,dC] using h
theorem fy.of{a:Ap}(h:Tb.right a.n a.az a.T=true):∃N,fy a N:=by
 have h0:=h;unfold Tb.right at h;simp only[cQ,dC,eT,ke] at h;obtain⟨hg,ht,hn⟩:=h;obtain⟨g1,g2,g3,g4⟩:=Gr.yy hg;refine⟨a.n.toNat,h0,by omega,by omega,by omega,g3,λx D=>?_,by omega,λi x D=>?_⟩
 ·obtain⟨p1,p2,-,p4⟩:=g4 x D;exact⟨⟨p1.1,by omega⟩,⟨p2.1,by omega⟩,p4⟩
 ·have F:=hn i (eD.1 D).1;unfold Tb.vd at F;rw[D] at F;simp only[cQ,dC,eT,ke] at F;obtain⟨-,-,s1,s2,hs⟩:=F;refine⟨⟨s1,s2⟩,λz hz=>?_⟩;obtain⟨k,Q,rfl⟩:=m5 hz;have R:=hs k Q;unfold Tb.rf at R;rw[eu Q] at R;dsimp only at R;unfold Pl.pz at R;simp only[cQ] at R;obtain⟨-,hw,hp,ht,-⟩:=R;refine⟨?_,?_,?_⟩
  ·unfold Pl.jh at hw;have hww:(∀w∈x.aL[k].waits,0<=Gr.find a.az w i)/\∀j,j<x.aL[k].waits.length->0<j->¬x.aL[k].waits.getD j 0<=x.aL[k].waits.getD (j-1) 0:=by
    split at hw
    ·simp only[cQ,eT,ke] at hw;have Rz:=hw.1;refine⟨λw q=>?_,λj hj Vr=>?_⟩
     ·obtain⟨j,hj,rfl⟩:=m5 q;have h3:=Rz j hj;unfold Pl.OD Pl.nv at h3;simp only[cQ,dC] at h3;have h4:=h3.1;rw[dB] at h4;simp only[Tb.place,eu hj,pM] at h4;exact h4
     ·have h3:=Rz j hj;unfold Pl.OD Pl.nv at h3;simp only[cQ,dC,nT,Bool.and_eq_false_iff,decide_eq_false_iff_not] at h3;rcases h3.2 with q|q
      ·exact absurd Vr q
      ·exact q
    ·have e0:x.aL[k].waits.length=0:=by
      simp only[Tb.place,mz] at hw;omega
     exact⟨λw q=>(by rw[ib e0] at q;cases q),λj hj=>by omega⟩
   refine⟨hww.1,?_⟩;have hr:∀w∈x.aL[k].waits,0<=w/\w<a.n:=λw q=>by
    have:=(g4 _ (F4 (hww.1 w q))).1;exact this
   have hu:=QV (λw q=>(hr w q).1) hww.2;by_cases hl:x.aL[k].waits.length=0
   ·omega
   ·have h5:=hu (x.aL[k].waits.length-1) (by omega);have h6:=(hr x.aL[k].waits[x.aL[k].waits.length-1] (nc _)).2;rw[dB,eu (by omega),pM] at h5;omega
  ·unfold Pl.iE at hp;simp only[cQ,eT,ke] at hp;intro p q;obtain⟨j,hj,rfl⟩:=m5 q;have h3:=hp.2.2 j hj;unfold Pl.uY at h3;simp only[Tb.place,eu hj,cQ,dC,nT,uL] at h3;refine⟨Ct h3.1,h3.2.1,λs q=>?_⟩;have h4:=h3.2.2 s q;unfold Pl.jE at h4;simp only[lY,dC,not_or] at h4;omega
  ·unfold Pl.jF at ht;simp only[eT,ke] at ht;intro t q;obtain⟨j,hj,rfl⟩:=m5 q;have h3:=ht j hj;unfold Pl.uX at h3;simp only[Tb.place,eu hj,cQ] at h3;exact Ct h3.2.2.1
theorem at_mem{T:List iD}{i:Nat}{s:Int}:Tb.at_ T i s=Tb.none\/∃x,T[i]?=some x/\Tb.at_ T i s∈x.aL:=by
 unfold Tb.at_;split
 ·next h=>
  unfold Tb.has at h;simp only[cQ,dC] at h;obtain⟨-,F,R,h3⟩:=h;have hi:i<T.length:=by omega
  refine .inr ⟨T[i],eu hi,?_⟩;have e:T.getD (i:Int).toNat ⟨0,[]⟩=T[i]:=by rw[dG];exact getD_eq (eu hi)
  rw[e] at h3⊢;have:s.toNat<T[i].aL.length:=by omega
  rw[dB,eu this,pM];exact nc _
 ·exact .inl rfl
section
variable{a:Ap}{N:Nat}
theorem fy.waits(h:fy a N)(i:Nat)(s:Int):(∀w∈(Tb.at_ a.T i s).waits,0<=Gr.find a.az w i)/\(Tb.at_ a.T i s).waits.length<=6:=by
 rcases at_mem (T:=a.T) (i:=i) (s:=s) with e|⟨x,D,hz⟩
 ·rw[e];exact⟨λw q=>(by cases q),by decide⟩
 ·exact((h.nd i x D).2 _ hz).1
theorem fy.dg(h:fy a N)(i:Nat)(s:Int):∀p∈(Tb.at_ a.T i s).dg,(0<=p.next/\p.next<((a.T.getD i ⟨0,[]⟩).aL.length:Int))/\p.eo.length<=4/\∀s∈p.eo,0<=Gr.find a.az i s.1:=by
 rcases at_mem (T:=a.T) (i:=i) (s:=s) with e|⟨x,D,hz⟩
 ·rw[e];exact λw q=>by cases q
 ·rw[dB,D];exact((h.nd i x D).2 _ hz).2.1
theorem fy.dd(h:fy a N)(i:Nat)(s:Int):∀t∈(Tb.at_ a.T i s).dd,0<=t.next/\t.next<((a.T.getD i ⟨0,[]⟩).aL.length:Int):=by
 rcases at_mem (T:=a.T) (i:=i) (s:=s) with e|⟨x,D,hz⟩
 ·rw[e];exact λw q=>by cases q
 ·rw[dB,D];exact((h.nd i x D).2 _ hz).2.2
theorem fy.sW(h:fy a N){x y:Int}(hf:0<=Gr.find a.az x y):0<=Gr.find a.az y x:=IK (h.lk _ (F4 hf)).2.2
def Lk(a:Ap)(l:Int):Prop:=0<=l/\l<(a.az.length:Int)
theorem Lk.find{x y:Int}(h:0<=Gr.find a.az x y):Lk a (Gr.find a.az x y):=⟨h,S6 h⟩
theorem fy.back(h:fy a N){l:Int}(hl:Lk a l):Lk a (Gr.back a.az l):=by
 unfold Gr.back;rw[aO (by have:=hl.1;have:=hl.2;omega)];apply Lk.find;have hi:l.toNat<a.az.length:=by have:=hl.1;have:=hl.2;omega
 have e:Gr.at_ a.az l.toNat=a.az[l.toNat]:=by unfold Gr.at_;rw[dB,eu hi];rfl
 rw[e];exact IK (h.lk _ (nc hi)).2.2
theorem Lk.outs{n x:Int}(h:x∈Gr.outs a.az n):Lk a x:=by
 obtain⟨i,rfl,hi⟩:=wQ h;exact⟨by omega,by omega⟩
theorem th(n:Int):(Gr.outs a.az n).length<=a.az.length:=Gr.lL _ _ _ _
theorem Mo(n:Int):(Gr.ins a.az n).length<=a.az.length:=Gr.lL _ _ _ _
end
theorem EC{x:Pc.bG}:∀ {l:List Pc.bG},l.Pairwise (λp q=>q.node<=p.node)->(V.sS x l).Pairwise (λp q=>q.node<=p.node)/\∀q∈V.sS x l,q=x\/q∈l
 |[],_=>⟨by simp[V.sS],λq hq=>by simpa[V.sS] using hq⟩
 |y::l,h=>by
  rw[m8] at h;obtain⟨i1,i2⟩:=EC (x:=x) h.2;unfold V.sS;split
  ·next bY=>
   refine⟨m8.2 ⟨λq hq=>?_,i1⟩,λq hq=>?_⟩
   ·rcases i2 q hq with rfl |hq
    ·omega
    ·exact h.1 q hq
   ·rcases jQ.1 hq with rfl |hq
    ·exact .inr (by simp)
    ·rcases i2 q hq with rfl |hq
     ·exact .inl rfl
     ·exact .inr (by simp[hq])
  ·next bY=>
   refine⟨m8.2 ⟨λq hq=>?_,m8.2 h⟩,λq hq=>by simpa using hq⟩;rcases jQ.1 hq with rfl |hq
   ·omega
   ·have:=h.1 q hq;omega
theorem WM(l:List Pc.bG):(V.Ss l).Pairwise λp q=>p.node<=q.node:=by
 unfold V.Ss;rw[List.pairwise_reverse];have:∀(l r:List Pc.bG),r.Pairwise (λp q=>q.node<=p.node)->(l.foldl (λr x=>V.sS x r) r).Pairwise (λp q=>q.node<=p.node):=by
  intro l;induction l with
  |nil=>intro r h;exact h
  |cons x l ih=>intro r h;exact ih _ (EC h).1
 exact this l [] List.Pairwise.nil
theorem ED:∀ {l:List Pc.bG},l.Pairwise (λp q=>p.node<=q.node)->V.wR l=false->l.Pairwise (λp q=>p.node<q.node)
 |[],_,_=>List.Pairwise.nil
 |[x],_,_=>by simp
 |x::y::l,h,ht=>by
  rw[m8] at h;unfold V.wR at ht;rw[EV] at ht;have i1:=ED h.2 ht.2;refine m8.2 ⟨λq hq=>?_,i1⟩;have yQ:=h.1 y (by simp);have fz:x.node≠y.node:=by simpa using ht.1
  rcases jQ.1 hq with rfl |hq
  ·omega
  ·have:=(m8.1 i1).1 q hq;omega
theorem QW:∀ {l:List Pc.bG} (lo:Int),l.Pairwise (λp q=>p.node<q.node)->lo<=6->(∀p∈l,lo<=p.node/\p.node<=5)->(l.length:Int)+lo<=6
 |[],lo,_,h,_=>by simpa using h
 |x::l,lo,h,h6,hr=>by
  rw[m8] at h;have D:=hr x (by simp);have:=QW (l:=l) (x.node+1) h.2 (by omega) λp hp=>⟨by have:=h.1 p hp;omega,(hr p (by simp[hp])).2⟩;rw[fF];omega
theorem N3{x y all:List Pc.bG}(h:V.merge x y=some all)(D:∀p∈x,0<=p.node/\p.node<=5)(hy:∀p∈y,0<=p.node/\p.node<=5):all.length<=6:=by
 have hm:=(ua h).2;unfold V.merge at h;split at h
 ·cases h
 ·next ht=>
  injection h with h;subst h
  have:=QW 0 (ED (WM _) (by simpa using ht)) (by omega) λp hp=>(hm p hp).elim (D p) (hy p);omega
end Go.Proofs.YtmgahjkopiaglaaGreat
