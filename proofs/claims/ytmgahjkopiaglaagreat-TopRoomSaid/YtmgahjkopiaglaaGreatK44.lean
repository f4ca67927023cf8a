/- TopRoom, proved whole (topRoom.proved): with more room a script of which no pick was refused for want of it does the same. Conditions: none beyond those of the given statement. -/
import Derived.Test.YtmgahjkopiaglaaGreatK43
import Derived.Laws.Cover2
set_option maxRecDepth 100000
set_option maxHeartbeats 16000000
set_option linter.all false
namespace Go.Proofs.YtmgahjkopiaglaaGreat
open Go.RowKit Go.Proofs.Tryz
theorem TJ{a:Ap}{b more:Nat}{cI:List (Int×Int×Int)}(h:V.iH a b cI=0)(hm:Rc.tp more=0):V.iH a more cI=0:=by
 have I:=(Gb h).2.1;unfold V.iH at h⊢;rw[I] at h;rw[hm];exact h
theorem Ot{a:Ap}{b more:Nat}{cI:List (Int×Int×Int)}(h:V.iH a b cI=0)(hm:Rc.tp more=0)(hle:Rc.iz b<=Rc.iz more)(h6:6∉(V.kW a (Rc.iz b) cI).jB):
 (V.kW a (Rc.iz more) cI).jB=(V.kW a (Rc.iz b) cI).jB/\(V.kW a (Rc.iz more) cI).steps=(V.kW a (Rc.iz b) cI).steps/\(V.kW a (Rc.iz more) cI).eY=(V.kW a (Rc.iz b) cI).eY/\V.wS a (V.kW a (Rc.iz more) cI).fJ=V.wS a (V.kW a (Rc.iz b) cI).fJ:=by
 obtain⟨hT,I,-⟩:=Gb h;obtain⟨N,ha⟩:=fy.of hT;rw[IX ha (vJ I).1 ⟨hle,(vJ hm).2⟩ cI h6];exact⟨rfl,rfl,rfl,IY a _⟩
theorem Ga.ok{w w':World}{a:Ap}{b:Nat}{cI:List (Int×Int×Int)}{y:Ending}{es:List Int}{ss:List St}{nF:Nat}{cf:Cf}(h:Ga w a b cI y w')(h0:V.iH a b cI=0)(K:(V.kW a (Rc.iz b) cI).jB=es)(hS:(V.kW a (Rc.iz b) cI).steps=ss)(hF:(V.kW a (Rc.iz b) cI).eY.length=nF)(hC:V.wS a (V.kW a (Rc.iz b) cI).fJ=cf):
 ∃E1 e1 S1 s1 F1 f1 D10 qa D11 lJ D12 lU,y=.returned (.tuple #[.agg #[.slice E1 es.length e1,.slice S1 ss.length s1,.slice F1 nF f1,.slice D10 cf.aL.length qa,.slice D11 cf.az.length lJ,.slice D12 cf.aQ.length lU],aP])/\ay Y.int false w' (bO w.1.size w'.1.size) (.slice E1 es.length e1) es/\ay Y.st false w' (bO w.1.size w'.1.size) (.slice S1 ss.length s1) ss/\da Y.cf w' (bO w.1.size w'.1.size) (.agg #[.slice D10 cf.aL.length qa,.slice D11 cf.az.length lJ,.slice D12 cf.aQ.length lU]) cf:=by
 rcases h with⟨fz,_⟩|⟨_,vE,vS,vF,vC,c0,c1,c2,rfl,rfl,F,R,h3,h4⟩
 ·exact absurd h0 fz
 rw[K] at F;rw[hS] at R;rw[hC] at h4;obtain⟨D0,D1,D2,x0,x1,x2,e,-⟩:=h4.cf;injection e with e;injection e with e;injection e with e0 e;injection e with e1 e;injection e with e2 e
 subst e0;subst e1;subst e2;have k1:=F;have k2:=R;obtain⟨E1,e1,rfl,-⟩:=k1;obtain⟨S1,s1,rfl,-⟩:=k2;obtain⟨F1,f1,rfl,-⟩:=h3;rw[hF];exact⟨_,_,_,_,_,_,_,_,_,_,_,_,rfl,F,R,h4⟩
theorem aaq(gA TA cA:Option Addr)(gK Tk ck:Nat)(a:Ap)(b more:Nat)(cI:List (Int×Int×Int))(w:World)(S:Nat->Prop)(hS:∀b,S b->b<w.1.size)(h0:ay Y.msg false w S (.slice gA a.az.length gK) a.az)(F:ay Y.eC false w S (.slice TA a.T.length Tk) a.T)(R:ay Y.aQ false w S (.slice cA cI.length ck) cI)(I:b<2^64)(hm:more<2^64):
 Calls prog 3 #[.agg #[a.n,.slice gA a.az.length gK,.slice TA a.T.length Tk,a.bF,.float .f64 b,.slice cA cI.length ck],.float .f64 more] w λy w'=>y=.returned (.bool true)/\aY w w':=by
 have XK:=h0.bounds;have VT:=F.bounds;have XJ:=R.bounds;obtain⟨p,hp⟩:=cJ a.cut;obtain⟨q,hq⟩:=cJ (cI.take 60);have rT:p.az.length<=40:=by rw[<-hp];show(a.az.take 40).length<=40;rw[dL];omega
 have Ud:q.length<=60:=by rw[<-hq,dL];omega
 have h0p:ay Y.msg false w S (.slice gA p.az.length gK) p.az:=by rw[<-hp];exact h0.take 40
 have hcut:∀W:World,(∀b,S b->W.1[b]?=w.1[b]?)->(∀b,S b->b<W.1.size)->Calls prog 4 #[.agg #[a.n,.slice gA a.az.length gK,.slice TA a.T.length Tk,a.bF,.float .f64 b,.slice cA cI.length ck]] W λy w'=>(∃vA vk rA rk,y=.returned (.agg #[p.n,.slice gA p.az.length gK,.slice vA p.T.length vk,p.bF,.float .f64 b,.slice rA q.length rk])/\ay Y.eC false w' (EW S W.1.size w') (.slice vA p.T.length vk) p.T/\ay Y.aQ false w' (EW S W.1.size w') (.slice rA q.length rk) q)/\aY W w':=by
  intro W Q hs;subst hp;subst hq;exact Oq gA TA cA gK Tk ck a b cI W S hs (h0.aE Q) (F.aE Q) (R.aE Q)
 change aK _ at hS hcut;have HPL:=U rT;have HQL:=U Ud;have Oh:=U I;have aar:=U hm;clear h0 F R hp hq I hm;go_in;go_upto_region 1 with fail
 refine jt λW1 b2 J=>?_;have O:=ch b2;go_wp2_with fail;clear O;refine(hcut W1 (λb q=>J.block b (hS b q)) (j2 hS J.size)).mono ?_;rintro _ W2 ⟨⟨vA,vk,rA,rk,rfl,hT,hC⟩,I⟩;have bb3:=hT.bounds;have bb4:=hC.bounds;have z1:=b2.lt;replace b2:=b2.next I;have ly:=dW J I;have z2:=I.size;have HT:=U hT;have HC:=U hC;replace ly:=U ly;replace J:=U J;clear hT hC I;go_upto_region 2 with(refine wpList_store_mid rfl 31 (.tmp 2) (.tmp 17) rfl w.1.size 0 #[p.n,.slice gA p.az.length gK,.slice vA p.T.length vk,p.bF,.float .f64 b,.slice rA q.length rk] rfl rfl (b2.cR rfl) (by kernel_rfl) (by simp[Value.oneCell']) ?_;rw[aH])
 refine bK λW3 hW=>?_;have WR:G W3 w.1.size #[p.n,.slice gA p.az.length gK,.slice vA p.T.length vk,p.bF,.float .f64 b,.slice rA q.length rk] 31:=G.eqv hW (b2.cm _ rfl);have cW:bH w.1.size W2 W3:=bH.eqv hW (dQ _ _ _);clear hW;have hz:=cW.size;obtain⟨av,hR⟩:∃av:Nat->Prop,EW S W1.1.size W2=av:=⟨_,rfl⟩;have Rl:∀b,av b->b<W3.1.size/\b≠w.1.size:=by
  intro b q;rw[<-hR] at q;rcases q with q|q
  ·have:=hS.Z b q;omega
  ·have:=q.1;have:=q.2;omega
 have hM:ay Y.msg false W3 av (.slice gA p.az.length gK) p.az:=by
  rw[<-hR];exact(h0p.aE λb q=>(cW.block b (by have:=hS.Z b q;omega)).trans (ly.block b (hS b q))).aF λb q=> .inl q
 have hT:ay Y.eC false W3 av (.slice vA p.T.length vk) p.T:=by rw[<-hR];exact HT.aE λb q=>cW.block b (Rl b (hR▸q)).2
 have hC:ay Y.aQ false W3 av (.slice rA q.length rk) q:=by rw[<-hR];exact HC.aE λb q=>cW.block b (Rl b (hR▸q)).2
 have fO:aY w W3:=ly.trans ⟨cW.os,cW.tape,cW.output,ca cW.size.symm,λk Q=>cW.block k (by omega)⟩;change aK _ at Rl;have Zj:=U fO;clear hR fO cW b2 ly J HT HC hz;have z3:w.1.size<W3.1.size:=WR.lt;have O:=ch WR;go_wp2_with fail;clear O;refine(Rf gA vA rA gK vk rk p b q W3 av (λb q=>(Rl b q).1) hM hT hC Oh.Z (by have:=HPL.Z;omega) (by have:=HQL.Z;omega)).mono ?_;rintro _ W4 ⟨hP,I⟩;by_cases he:V.iH p b q=0
 case neg=>
  rcases hP with⟨-,rfl⟩|⟨q0,_⟩
  case inr=>exact absurd q0 he
  obtain⟨e,hee⟩:=cJ (V.iH p b q);rw[hee] at he;have b0:(e !=0)=true:=by simpa using he
  rw[hee];change aK _ at hee;clear he;have z4:=I.size;have Gm:=Zj.trans (I.mono (by omega));have X':=WR.next I;replace Gm:=U Gm;replace I:=U I;have O:=ch X';go_upto_region 4 with fail
  clear O;refine bK λW5 hW=>?_;have Ao:aY W4 W5:=Below.eqv hW (cT.alloc (by first |(simp;done)|(simp;omega)) _);clear hW;have UW:=X'.next Ao;have tV:=Gm.trans (Ao.mono (by omega));have Q:∀b,av b->W5.1[b]?=W3.1[b]?:=λb q=>(Ao.block b (by have:=(Rl.Z b q).1;omega)).trans (I.block b (Rl b q).1);have z5:=Ao.size;replace tV:=U tV;change aK _ at Q;clear Ao X';have O:=ch UW;go_wp2_with fail;clear O;refine(CA gA vA rA gK vk rk p b q W5 av (λb q=>by have:=(Rl.Z b q).1;omega) (hM.aE Q.Z) (hT.aE Q.Z) (hC.aE Q.Z) Oh.Z (by have:=HPL.Z;omega)).mono ?_;rintro _ W6 ⟨rfl,xZ⟩;rw[hee.Z];have LY:=tV.trans (xZ.mono (by omega));have z6:=xZ.size;replace LY:=U LY;clear xZ;have b1:(e==e)=true:=by simp
  go_wp2_with fail;refine(CH W6).mono ?_;rintro _ W7 ⟨rfl,qo⟩;have XY:=U (LY.trans (qo.mono (by omega)));clear qo;go_wp2;go_ret;exact⟨rfl,XY.Z⟩
 obtain⟨es,UC⟩:=cJ ((V.kW p (Rc.iz b) q).jB);obtain⟨ss,Nw⟩:=cJ ((V.kW p (Rc.iz b) q).steps);obtain⟨nF,U0⟩:=cJ ((V.kW p (Rc.iz b) q).eY.length);obtain⟨cf,NF⟩:=cJ (V.wS p (V.kW p (Rc.iz b) q).fJ);obtain⟨E1,e1,S1,s1,F1,f1,D10,qa,D11,lJ,D12,lU,rfl,K,hSS,hCF⟩:=hP.ok he UC Nw U0 NF;have rK:ss.length<=60:=by
  have:=(CD p q (⟨[],[],[],V.rO p (Rc.iz b)⟩:V.qz)).2.1;rw[<-Nw];unfold V.kW;have:=HQL.Z;simp at *;omega
 have hEb:=K.bounds;have HE:=U K;have HZ:=U he;have z4:=I.size;have X':=WR.next I;have HBB:=U I;have Zy:=U (Zj.trans (I.mono (by omega)));change aK _ at rK;replace hSS:=U hSS;replace hCF:=U hCF;replace UC:=U UC;replace Nw:=U Nw;replace U0:=U U0;replace NF:=U NF;clear K he hP I WR;go_upto_region 3 with fail
 refine jt λW5 b5 Ao=>?_;have UW:=X'.next Ao;have z5:W4.1.size<W5.1.size:=b5.lt;have K:=HE.aE λb q=>Ao.block b (bO.hi q);have HEa:=U K.arr;have T4:=U (Zy.trans (Ao.mono (by omega)));have Rm:=U Ao;have B5:=U b5;replace UW:=U UW;clear K Ao X';have O2:=ch b5;go_wp2;go_loopg [7] es.length (λk i wr=>∃j:Nat,i=.int .i64 (j:Int)/\j<=es.length/\k=es.length-j/\W5=wr/\∀m:Nat,m<j->es[m]?≠some 6)
 case atStart=>exact⟨0,rfl,by omega,by omega,rfl,λm h=>absurd h (by omega)⟩
 case round=>
  obtain⟨j,rfl,hj,Q,rfl,h6⟩:=hrel;have Hk:=U Q;clear Q;change aK _ at h6;by_cases bY:j<es.length
  case pos=>
   obtain⟨x,D⟩:=Pc.get_at bY;obtain⟨g,o,Ub,-,c0⟩:=dm.qW HEa.Z D;subst Ub;replace D:=U D;by_cases Wu:x=6
   case pos=>
    subst Wu;go_wp2_with fail;refine(CH W5).mono ?_;rintro _ W6 ⟨rfl,xZ⟩;have HB6:=U (T4.trans (xZ.mono (by omega)));clear xZ;go_wp2;go_ret;exact⟨rfl,HB6.Z⟩
   have b6:(x==6)=false:=by simpa using Wu
   replace Wu:=U Wu;go_wp2;go_roundg (es.length-(j+1))
   case rel=>
    refine⟨j+1,by simp,by omega,rfl,rfl,λm hm=>?_⟩;rcases Nat.lt_or_eq_of_le (Nat.le_of_lt_succ hm) with h|h
    ·exact h6 m h
    ·rw[h,D.Z];intro e;injection e with e;exact Wu e
   case measure=>have:=Hk.Z;omega
  obtain rfl:j=es.length:=by omega
  have H6e:aK (6∉es):=U λh=>by
   obtain⟨m,hm,e⟩:=List.mem_iff_getElem.1 h;exact h6 m hm (by rw[eu hm,e])
  clear h6 Hk;have O:=ch UW.Z;go_upto_region 10 with fail
  clear O2;go_wp2_with fail;refine(UT b W5 Oh.Z).mono ?_;rintro _ _ ⟨rfl,rfl⟩;go_wp2_with fail;refine(UT more W5 aar.Z).mono ?_;rintro _ _ ⟨rfl,rfl⟩;obtain⟨c,hc⟩:=cJ (Rc.iz b);obtain⟨c0,CQ⟩:=cJ (Rc.tp b);obtain⟨d,hd⟩:=cJ (Rc.iz more);obtain⟨e,he⟩:=cJ (Rc.tp more);rw[hc,CQ,hd,he];change aK _ at hc hd he;clear CQ;by_cases sf:e=0
  case neg=>
   have b0:(e !=0)=true:=by simpa using sf
   clear sf;go_wp2_with fail;refine(CH W5).mono ?_;rintro _ W6 ⟨rfl,ga⟩;have Ya:=U (T4.trans (ga.mono (by omega)));clear ga;go_wp2;go_ret;exact⟨rfl,Ya.Z⟩
  subst sf;by_cases hdc:d<c
  case pos=>
   go_wp2_with fail;refine(CH W5).mono ?_;rintro _ W6 ⟨rfl,ga⟩;have Ya:=U (T4.trans (ga.mono (by omega)));clear ga;go_wp2;go_ret;exact⟨rfl,Ya.Z⟩
  go_upto_region 15 with(refine wpList_store_mid rfl 31 (.tmp 12) (.tmp 65) rfl W5.1.size 0 #[p.n,.slice gA p.az.length gK,.slice vA p.T.length vk,p.bF,.float .f64 b,.slice rA q.length rk] rfl rfl ((G.new _ _ _).cR rfl) (by kernel_rfl) (by simp[Value.oneCell']) ?_;rw[aH])
  clear O;refine bK λW6 hW=>?_;have r8:G W6 W5.1.size #[p.n,.slice gA p.az.length gK,.slice vA p.T.length vk,p.bF,.float .f64 b,.slice rA q.length rk] 31:=G.eqv hW ((G.new _ _ _).cm _ rfl);have cW:bH W5.1.size (W5.alloc (.cells #[aP,(),(),false,.float .f64 0,()] 31)) W6:=bH.eqv hW (dQ _ _ _);have xZ:aY W5 W6:=Below.trans (cT.alloc bE (.cells #[aP,(),(),false,.float .f64 0,()] 31)) ⟨cW.os,cW.tape,cW.output,ca cW.size.symm,λk Q=>cW.block k (by omega)⟩;clear hW cW;obtain⟨kc,kf,kl⟩:=r8.open_;have c4:W6.cell? ⟨W5.1.size,4,none⟩=some (.float .f64 b):=kc 4;have hsf:=λ(x:Addr)(v:Nat)(W:World) m=>run_store prog W x (.float .f64 v) m rfl;go_upto_region 16 with fail
  clear kc kf kl c4 hsf;refine bK λW7 hW=>?_;have Xk:G W7 W5.1.size #[p.n,.slice gA p.az.length gK,.slice vA p.T.length vk,p.bF,.float .f64 more,.slice rA q.length rk] 31:=G.eqv hW (r8.cC 4 _);have qo:aY W5 W7:=xZ.trans (Below.eqv hW ((bI W5.1.size W6).setCell (p:=⟨W5.1.size,4,none⟩) bE _));clear hW r8 xZ;have z7:W5.1.size<W7.1.size:=Xk.lt;have Q:∀b,av b->W7.1[b]?=W3.1[b]?:=λb q=>(qo.block b (by have:=(Rl.Z b q).1;omega)).trans ((Rm.block b (by have:=(Rl.Z b q).1;omega)).trans (HBB.block b (Rl b q).1));have GF:G W7 W4.1.size #[.slice E1 es.length e1,.slice S1 ss.length s1,.slice F1 nF f1,.slice D10 cf.aL.length qa,.slice D11 cf.az.length lJ,.slice D12 cf.aQ.length lU] 41:=(qo.block _ (by omega)).trans B5.Z;have X8:=HE.aE λb q=>(qo.block b (by have:=bO.hi q;omega)).trans (Rm.block b (bO.hi q));have hS7:=hSS.aE λb q=>(qo.block b (by have:=bO.hi q;omega)).trans (Rm.block b (bO.hi q));have hC7:=hCF.aE λb q=>(qo.block b (by have:=bO.hi q;omega)).trans (Rm.block b (bO.hi q));have HK:=U Q;replace X8:=U X8;replace hS7:=U hS7;replace hC7:=U hC7;have XY:=U (T4.trans (qo.mono (by omega)));replace hdc:=U hdc;clear Q qo HEa HE hSS hCF Rm HBB UW;have O:=ch Xk;go_wp2_with fail;clear O;refine(Rf gA vA rA gK vk rk p more q W7 av (λb q=>by have:=(Rl.Z b q).1;omega) (hM.aE HK.Z) (hT.aE HK.Z) (hC.aE HK.Z) aar.Z (by have:=HPL.Z;omega) (by have:=HQL.Z;omega)).mono ?_;rintro _ W8 ⟨hP,I⟩;have Ma:=Ot HZ.Z he.Z (by rw[hc.Z,hd.Z];have:=hdc.Z;omega) (by rw[UC.Z];exact H6e.Z);obtain⟨E2,e2,S2,s2,F2,f2,D20,uH,D21,x21,D22,x22,rfl,DP,DI,VJ⟩:=hP.ok (nF:=nF) (TJ HZ.Z he.Z) (Ma.1.trans UC.Z) (Ma.2.1.trans Nw.Z) (Ma.2.2.1▸U0.Z) (Ma.2.2.2.trans NF.Z);have z8:=I.size;have akD:=DP.bounds;replace GF:=GF.next I;have N0:=U (XY.trans (I.mono (by omega)));have hE8:=X8.aE λb q=>I.block b (by have:=bO.hi q;omega);have hS8:=hS7.aE λb q=>I.block b (by have:=bO.hi q;omega);have hC8:=hC7.aE λb q=>I.block b (by have:=bO.hi q;omega);replace DP:=U DP;replace DI:=U DI;replace VJ:=U VJ;replace hE8:=U hE8;replace hS8:=U hS8;replace hC8:=U hC8;clear hP I Ma X8 hS7 hC7 XY Xk HK hM hT hC HZ;go_upto_region 17 with fail
  refine jt λW9 yS j7=>?_;have z9:W8.1.size<W9.1.size:=yS.lt;replace GF:=GF.next j7;refine rg 214958080000 λax I K=>?_;replace GF:=GF.next I;replace yS:=yS.next I;have Pf:=dW j7 I;have zV:W8.1.size<ax.1.size:=yS.lt;have HBV:=U (N0.trans (Pf.mono (by omega)));have Pt:∀b,b<W8.1.size->ax.1[b]?=W8.1[b]?:=Pf.block;have Ou:=hE8.aE λb q=>Pt b (by have:=bO.hi q;omega);have TL:=hS8.aE λb q=>Pt b (by have:=bO.hi q;omega);have TM:=hC8.aE λb q=>Pt b (by have:=bO.hi q;omega);have TN:=DP.aE λb q=>Pt b (bO.hi q);have TO:=DI.aE λb q=>Pt b (bO.hi q);have TP:=VJ.aE λb q=>Pt b (bO.hi q);replace Ou:=U Ou;replace TL:=U TL;replace TM:=U TM;replace TN:=U TN;replace TO:=U TO;replace TP:=U TP;have B57:=U GF;have U7:=U yS;clear Pf Pt hE8 hS8 hC8 DP DI VJ I j7 N0;have O:=eE GF yS;refine aG [0,1,2,3,4,5,6,7,8,9,10,11,12,13,14,15,16,17,18,19,20,21,22] 17 ?_;go_wp2;refine rJ [24,25] 15 ?_;go_wp2;refine iJ ?_;clear O GF yS;refine oN 23 ?_;go_wp2_with fail;refine(CE (.slice S2 ss.length s2) ss ax (bO W7.1.size W8.1.size) (λb q=>by have:=bO.hi q;omega) TO.Z (by have:=rK.Z;omega)).mono ?_;rintro _ V1 ⟨⟨u2,rfl,DU⟩,ee⟩;have zV1:=ee.size;go_wp2;refine⟨λ_=>Ext.below ee bE,?_⟩;refine oN 26 ?_;go_wp2_with fail;refine(CE (.slice S1 ss.length s1) ss V1 (bO W3.1.size W4.1.size) (λb q=>by have:=bO.hi q;omega) (TL.aE λb q=>ee.block b (by have:=bO.hi q;omega)) (by have:=rK.Z;omega)).mono ?_;rintro _ V2 ⟨⟨u1,rfl,Ed⟩,dO⟩;have zV2:=dO.size;have SH:=dW ee dO;have TQ:=(DU.aE λb q=>dO.block b (bO.hi q)).aF (S':=bO ax.1.size V2.1.size) (xD bE zV2);have TR:=Ed.aF (S':=bO ax.1.size V2.1.size) (xD zV1 bE);replace TQ:=U TQ;replace TR:=U TR;replace SH:=U SH;clear DU Ed ee dO;go_wp2;refine⟨λ_=>Ext.below SH.Z bE,?_⟩;refine oN 27 ?_;go_wp2_with fail;refine(Lv u2 u1 ss V2 (bO ax.1.size V2.1.size) (λb q=>bO.hi q) TQ.Z TR.Z).mono ?_;rintro _ V3 ⟨rfl,fu⟩;have fO:=dW SH.Z fu;have zV3:=fu.size;replace fO:=U fO;clear fu TQ TR SH;go_wp2;refine⟨λ_=>Ext.below fO.Z bE,?_⟩;have GF:=B57.next fO.Z;have yS:=U7.next fO.Z;have O:=eE GF yS;refine aG [28,29,30,31,32] 7 ?_;go_wp2;refine fX ?_;refine df (Ext.below fO.Z bE) _ _ _ _ ?_;refine rD [34,35] 5 ?_;go_wp2;refine iJ ?_;clear O GF yS;refine oN 33 ?_;go_wp2_with fail;refine(I' D20 D21 D22 cf.aL.length cf.az.length cf.aQ.length uH x21 x22 V3).mono ?_;rintro _ V4 ⟨rfl,ob⟩;have zV4:=ob.size;replace ob:=U ob;go_wp2;refine⟨λ_=>Ext.below ob.Z bE,?_⟩;refine oN 36 ?_;go_wp2_with fail;refine(I' D10 D11 D12 cf.aL.length cf.az.length cf.aQ.length qa lJ lU V4).mono ?_;rintro _ V5 ⟨rfl,Ao⟩;have zV5:=Ao.size;have TS:=U (dW ob.Z Ao);clear Ao;go_wp2;refine⟨λ_=>Ext.below TS.Z bE,?_⟩;refine oN 37 ?_;go_wp2_with fail;have TU:∀b,b<ax.1.size->V5.1[b]?=ax.1[b]?:=λb q=>(TS.block b (by omega)).trans (fO.block b q);have oW:=(TP.aE λb q=>TU b (by have:=bO.hi q;omega)).aF (S':=λb=>b<V5.1.size) λb q=>by have:=bO.hi q;omega
  have qX:=(TM.aE λb q=>TU b (by have:=bO.hi q;omega)).aF (S':=λb=>b<V5.1.size) λb q=>by have:=bO.hi q;omega
  refine(Ok (.agg #[.slice D20 cf.aL.length uH,.slice D21 cf.az.length x21,.slice D22 cf.aQ.length x22]) (.agg #[.slice D10 cf.aL.length qa,.slice D11 cf.az.length lJ,.slice D12 cf.aQ.length lU]) cf V5 (λb=>b<V5.1.size) (λb q=>q) oW qX).mono ?_;rintro _ V6 ⟨rfl,xZ⟩;have zV6:=xZ.size;have Xl:=U (dW TS.Z xZ);change aK _ at TU;clear xZ qX oW TU;go_wp2;refine⟨λ_=>Ext.below Xl.Z bE,?_⟩;refine aG [38,39] 0 ?_;go_wp2;refine eJ ?_;have Xm:=fO.trans (Xl.mono fO.size);have GF:=B57.next Xm;have yS:=U7.next Xm;have aat:=U (Ou.aE λb q=>Xm.block b (by have:=bO.hi q;omega));have aau:=U (TN.aE λb q=>Xm.block b (by have:=bO.hi q;omega));have HBE:=U (HBV.trans (Xm.mono (by omega)));have zE:=Xm.size;clear Xm fO ob TS Xl HBV TM TP TL TO Ou TN;have Ou:=U aat.arr;have DP:=U aau.arr;have B57:=U GF;have U7:=U yS;clear aat aau GF yS;have O:=ch B57.Z;go_wp2;clear O;go_loopg [15] es.length (λk i wr=>∃j:Nat,i=.int .i64 (j:Int)/\j<=es.length/\k=es.length-j/\Quiet V6 wr)
  case atStart=>exact⟨0,rfl,by omega,by omega,Quiet.refl _⟩
  case round=>
   obtain⟨j,rfl,hj,Q,I⟩:=hrel;change aK _ at Q;have GF:G wr W4.1.size #[.slice E1 es.length e1,.slice S1 ss.length s1,.slice F1 nF f1,.slice D10 cf.aL.length qa,.slice D11 cf.az.length lJ,.slice D12 cf.aQ.length lU] 41:=by show wr.1[_]?=_;rw[I.heap];exact B57.Z
   have yS:G wr W8.1.size #[.slice E2 es.length e2,.slice S2 ss.length s2,.slice F2 nF f2,.slice D20 cf.aL.length uH,.slice D21 cf.az.length x21,.slice D22 cf.aQ.length x22] 41:=by show wr.1[_]?=_;rw[I.heap];exact U7.Z
   by_cases bY:j<es.length
   case pos=>
    obtain⟨x,D⟩:=Pc.get_at bY;obtain⟨g,o,Ub,-,c0⟩:=dm.qW (Ou.aE λb q=>by rw[I.heap]) D;obtain⟨g',o',hgo',-,c0'⟩:=dm.qW (DP.aE λb q=>by rw[I.heap]) D;subst Ub;subst hgo';have Rr:(x !=x)=false:=by simp
    clear D;have O:=eE GF yS;go_wp2_with fail;go_quiet (fail);go_wp2;go_roundg (es.length-(j+1))
    case rel=>exact⟨j+1,by simp,by omega,rfl,I.drewN _⟩
    case measure=>have:=Q.Z;omega
   obtain rfl:j=es.length:=by omega
   have Ya:=U (HBE.trans (I.below (B:=w.1.size)));have zx:w.1.size<=wr.1.size:=Ya.size;clear I;have O:=ch GF;go_wp2_with fail;clear O;refine(CH wr).mono ?_;rintro _ W6 ⟨rfl,ga⟩;have HBy:=U (Ya.trans (ga.mono (by omega)));clear ga;go_wp2;go_ret;exact⟨rfl,HBy.Z⟩
end Go.Proofs.YtmgahjkopiaglaaGreat
namespace Go.Proofs.YtmgahjkopiaglaaGreat
open Go.Proofs.Tryz
open Go.ChangeShapes Go.WideShapes Go.ChangeAt Go.RowKit
section
variable{ar:Type}{enc:TypeId×Value->ar}{P:Program}
theorem Dw(hl:laidOutB P=true){W W':World}{sp':Nat->Bool}:∀ {ts:List TypeId} {vs:List Value} {ds:List (DataW ar)} {ps:List MemPlace},(∀t∈ts,P.readableRec t=true/\t<P.types.size)->
 DataW.TrodAll enc P W 0 (λ_=>true) true ts vs ds ps->(∀p∈ps,W.sameAt W' p)->(∀p∈ps,sp' p.block=true)->DataW.TrodAll enc P W' 0 sp' true ts vs ds ps:=by
 intro ts;induction ts with
 |nil=>
  intro vs ds ps _ h _ _;obtain⟨rfl,rfl,rfl⟩:=trodAll_nil h;exact trodAll_mk0
 |cons t ts ih=>
  intro vs ds ps hts h yx L7;obtain⟨v,vs',d,ds',p,q,rfl,rfl,rfl,h0,r0⟩:=trodAll_cons h;have F:=hts t (by simp);exact trodAll_cons_mk (WideElems.Trod_stays hl F.1 F.2 h0 (λx D=>yx x (by simp[D])) (λx D=>L7 x (by simp[D])))
   (ih (λt ht=>hts t (by simp[ht])) r0 (λx D=>yx x (by simp[D])) (λx D=>L7 x (by simp[D])))
theorem Rn{f:Func}{s:ChangeSpec}{apart fresh handsOn again:Bool}{W W':World}{args:Array Value}{ds:List (DataW ar)}{before:List MemPlace}{tb:TypeId}
 (hl:laidOutB P=true)(aav:s.vars=[])(hts:∀t∈f.params.toList,P.readableRec t=true/\t<P.types.size)(Iq:f.resultTypes=#[tb])(htb:P.underlying tb=some .bool)
 (hW:DataW.Whole enc P f.params.toList s.vars apart W args.toList ds [] before)(hA:DataW.TrodAll enc P W 0 (λ_=>true) true f.params.toList args.toList ds before)
 (aaw:s.fn ar ds={results:=[.lit (.bool true)],args:=ds})(I:aY W W'):
 s.post enc P f apart fresh handsOn again W args (.bool true) W':=by
 have bY:∀p∈before,p.block<W.1.size:=λp hp=>hW.lt p hp;have hold:∀p∈before,(λb=>decide (b<W.1.size)) p.block=true:=λp hp=>by simpa using bY p hp
 have LA:s.fn ar (ds++[])={results:=[.lit (.bool true)],args:=ds}:=by rw[List.append_nil];exact aaw
 have Ro:∀sp:Nat->Bool,(∀p∈before,sp p.block=true)->DataW.TrodAll enc P W' 0 sp true f.params.toList args.toList (s.fn ar (ds++[])).args before:=by
  intro sp L7;rw[LA];exact Dw hl hts hA (λp hp=>I.same (bY p hp)) L7
 have ef:∀(b:Nat)(sp:Nat->Bool)(hd:Bool),DataW.TrodAll enc P W' b sp hd f.resultTypes.toList ((Value.bool true).resultList f.resultTypes.size) (s.fn ar (ds++[])).results []:=by
  intro b sp hd;rw[LA,Iq];exact trodAll_cons_mk (shut_bool htb _) trodAll_mk0
 have aax:∀sp:Nat->Bool,DataW.TrodVars enc P W' sp s.vars (s.fn ar (ds++[])).vars []:=by
  intro sp;rw[LA,aav];rfl
 have iZ:∀(j:Nat)(t:TypeId)(r:Value),f.resultTypes[j]?=some t->((Value.bool true).resultList f.resultTypes.size)[j]?=some r->Value.okWide P W' .any 0 t r:=
  ok_one Iq rfl (okWide_bool_mk htb _)
 refine⟨ds,[],before,[],before,[],hW,ef _ _ _,Ro _ hold,aax _,World.keptBut_mono (λp hp=>⟨hp,Or.inr (Or.inl hp)⟩) (I.frame (·∈before)),λ_=>?_⟩;obtain⟨_,_,_,_,_,hz,hn⟩:=hW;refine⟨iZ,_,_,([]++before)++[],⟨[]++before,[],trodAll_append (Ro _ (λ_ _=>rfl)) (ef _ _ _),aax _,rfl,?_,?_⟩,?_⟩
 ·intro b off hp;have iu:MemPlace.cell b off∈before:=by simpa using hp
  rw[I.frozen (bY _ iu)];exact hz b off iu
 ·intro ha;have:=hn ha;simpa using this
 ·intro p hp _;simpa using hp
end
section
variable{ar:Type}{enc:TypeId×Value->ar}{P:Program}{W:World}{α:Type}{r:Y α}{t e:TypeId}
def iW(enc:TypeId×Value->ar)(P:Program)(W:World)(t:TypeId)(r:Y α):Prop:=
 ∀(fuel:Nat)(cs:List Value)(x:DataW ar×List MemPlace),DataW.trod enc P W 0 (λ_=>true) true fuel t cs=some x->∃a,r.is false W (bO 0 W.1.size) cs a
theorem Ov(ht:P.underlying t=some (.int .i64)):iW enc P W t Y.int:=by
 intro fuel cs x h;obtain⟨n,rfl,_⟩:=DataW.trod_int ht h;exact⟨n,rfl⟩
theorem Ow{a:Addr}{u:Value}(h:W.cell? a=some u):a=⟨a.block,a.off,none⟩:=by
 obtain⟨b,o,s⟩:=a;cases s with
 |none=>rfl
 |some s=>
  exfalso;unfold World.cell? at h;split at h<;>simp at h
theorem Ox(ho:iW enc P W e r)(hc:P.cellsOf e=r.size){a:Addr}{n:Nat}{ab:Nat->DataW ar}{Pl:Nat->List MemPlace}:∀(m k:Nat),
 (∀i,i<k+m->∃cs',W.cells? 0 (a.add (i * P.cellsOf e)) (P.cellsOf e)=some cs'/\DataW.trod enc P W 0 (λ_=>true) true n e cs'=some (ab i,Pl i))->
 ∃cells xs,r.all false W (bO 0 W.1.size) cells xs/\xs.length=m/\∀j u,cells[j]?=some u->W.cell? ((a.add (k * r.size)).add j)=some u:=by
 intro m;induction m with
 |zero=>intro k _;exact⟨[],[],rfl,rfl,λj u h=>by simp at h⟩
 |succ m ih=>
  intro k h;obtain⟨cs,F,R⟩:=h k (by omega);obtain⟨x,D⟩:=ho _ _ _ R;obtain⟨cells,xs,h3,h4,h5⟩:=ih (k+1) (λi hi=>h i (by omega));obtain⟨_,hl,jK⟩:=World.cells?_some F;rw[hc] at hl jK;refine⟨cs++cells,x::xs,⟨cs,cells,rfl,D,h3⟩,by simp[h4],λj u hj=>?_⟩;by_cases wC:j<cs.length
  ·rw[lF wC] at hj;rw[jK j (by omega)];exact hj
  ·rw[pJ (by omega)] at hj;have:=h5 _ _ hj;rw[Go.Deep.add_add] at this⊢;rw[show(k+1) * r.size+(j-cs.length)=k * r.size+j from by rw[nV];omega] at this;exact this
theorem je(ht:P.underlying t=some (.slice e))(hc:P.cellsOf e=r.size)(ho:iW enc P W e r):iW enc P W t r.slice:=by
 intro fuel cs x h;rcases Go.Deep.open_slice ht h with⟨rfl,_⟩|⟨a,len,cap,m,n,ab,Pl,rfl,_,hl,hm,Bl,_,VO⟩
 ·exact⟨[],_,rfl,ay.none_⟩
 ·have hlm:len<=m:=by rw[Bl];simpa using hl
  obtain⟨cells,xs,F,R,h3⟩:=Ox ho hc len 0 (λi hi=>VO i (by omega));rw[Nat.zero_mul] at h3;subst R;refine⟨xs,_,rfl,some a,cap,rfl,hl,hm,cells,F,λGX=>?_⟩;have hlen:=Y.wy F;have ahk:0<cells.length:=by rw[hlen];exact tL GX r.pos
  have h0:=h3 0 cells[0] (by simp);have h0:W.cell? a=some cells[0]:=by simpa[Addr.add] using h0
  have ha:=Ow h0;have ae3:a.block<W.1.size:=World.block_lt_of_cell? W _ h0;refine⟨a.block,a.off,by rw[<-ha],⟨fH _,ae3⟩,λj u hj=>⟨?_,λh=>by cases h⟩⟩;have:=h3 j u hj;rw[Go.Deep.add_add,iR,ha,JH] at this;exact this
theorem Oy{f0 f1:Field}(hs:P.underlying t=some (.struct #[f0,f1]))(h0:P.underlying f0.type=some (.int .i64))(F:P.underlying f1.type=some (.int .i64))(hc:P.cellsOf t=2)(o0:f0.offset=0)(o1:f1.offset=1)(c0:P.cellsOf f0.type=1)(c1:P.cellsOf f1.type=1):
 iW enc P W t Y.msg:=by
 intro fuel cs x h;obtain⟨xs,n,_,_,hl,Ft,hf⟩:=DataW.trod_struct hs h;rw[hc] at hl
 match cs,hl,xs,Ft with
 |[u0,u1],_,[x0,x1],_=>
  have e0:=hf 0 f0 rfl;have e1:=hf 1 f1 rfl;rw[o0,c0] at e0;rw[o1,c1] at e1;obtain⟨a,ha,_⟩:=DataW.trod_int h0 e0;obtain⟨b,I,_⟩:=DataW.trod_int F e1;simp at ha I;exact⟨(a,b),by rw[ha,I];rfl⟩
theorem LB{f0 f1 f2:Field}(hs:P.underlying t=some (.struct #[f0,f1,f2]))(h0:P.underlying f0.type=some (.int .i64))(F:P.underlying f1.type=some (.int .i64))(R:P.underlying f2.type=some (.int .i64))(hc:P.cellsOf t=3)(o:f0.offset=0/\f1.offset=1/\f2.offset=2)(c:P.cellsOf f0.type=1/\P.cellsOf f1.type=1/\P.cellsOf f2.type=1):iW enc P W t Y.jc:=by
 obtain⟨o0,o1,o2⟩:=o;obtain⟨c0,c1,c2⟩:=c;intro fuel cs x h;obtain⟨xs,n,_,_,hl,Ft,hf⟩:=DataW.trod_struct hs h;rw[hc] at hl
 match cs,hl,xs,Ft with
 |[u0,u1,u2],_,[x0,x1,x2],_=>
  have e0:=hf 0 f0 rfl;rw[o0,c0] at e0;have e1:=hf 1 f1 rfl;rw[o1,c1] at e1;have e2:=hf 2 f2 rfl;rw[o2,c2] at e2;obtain⟨a0,q0,_⟩:=DataW.trod_int h0 e0;obtain⟨a1,q1,_⟩:=DataW.trod_int F e1;obtain⟨a2,q2,_⟩:=DataW.trod_int R e2;simp at q0 q1 q2;subst q0 q1 q2;exact⟨⟨a0,a1,a2⟩,rfl⟩
theorem Oz{f0 f1 f2:Field}(hs:P.underlying t=some (.struct #[f0,f1,f2]))(h0:P.underlying f0.type=some (.int .i64))(F:P.underlying f1.type=some (.int .i64))(R:P.underlying f2.type=some (.int .i64))(hc:P.cellsOf t=3)(o:f0.offset=0/\f1.offset=1/\f2.offset=2)(c:P.cellsOf f0.type=1/\P.cellsOf f1.type=1/\P.cellsOf f2.type=1):iW enc P W t Y.aQ:=by
 obtain⟨o0,o1,o2⟩:=o;obtain⟨c0,c1,c2⟩:=c;intro fuel cs x h;obtain⟨xs,n,_,_,hl,Ft,hf⟩:=DataW.trod_struct hs h;rw[hc] at hl
 match cs,hl,xs,Ft with
 |[u0,u1,u2],_,[x0,x1,x2],_=>
  have e0:=hf 0 f0 rfl;rw[o0,c0] at e0;have e1:=hf 1 f1 rfl;rw[o1,c1] at e1;have e2:=hf 2 f2 rfl;rw[o2,c2] at e2;obtain⟨a0,q0,_⟩:=DataW.trod_int h0 e0;obtain⟨a1,q1,_⟩:=DataW.trod_int F e1;obtain⟨a2,q2,_⟩:=DataW.trod_int R e2;simp at q0 q1 q2;subst q0 q1 q2;exact⟨(a0,a1,a2),rfl⟩
theorem LC{f0 f1:Field}(hs:P.underlying t=some (.struct #[f0,f1]))(h0:P.underlying f0.type=some (.int .i64))(F:iW enc P W f1.type Y.msg.slice)(hc:P.cellsOf t=2)(o:f0.offset=0/\f1.offset=1)(c:P.cellsOf f0.type=1/\P.cellsOf f1.type=1):iW enc P W t Y.lh:=by
 obtain⟨o0,o1⟩:=o;obtain⟨c0,c1⟩:=c;intro fuel cs x h;obtain⟨xs,n,_,_,hl,Ft,hf⟩:=DataW.trod_struct hs h;rw[hc] at hl
 match cs,hl,xs,Ft with
 |[u0,u1],_,[x0,x1],_=>
  have e0:=hf 0 f0 rfl;rw[o0,c0] at e0;have e1:=hf 1 f1 rfl;rw[o1,c1] at e1;obtain⟨a0,q0,_⟩:=DataW.trod_int h0 e0;obtain⟨a1,v1,q1,q1'⟩:=F _ _ _ e1;simp at q0 q1;subst q0 q1;exact⟨⟨a0,a1⟩,_,rfl,q1'⟩
theorem Jd{f0 f1 f2 f3:Field}(hs:P.underlying t=some (.struct #[f0,f1,f2,f3]))(h0:P.underlying f0.type=some (.int .i64))(F:iW enc P W f1.type Y.int.slice)(R:iW enc P W f2.type Y.lh.slice)(h3:iW enc P W f3.type Y.jc.slice)(hc:P.cellsOf t=4)(o:f0.offset=0/\f1.offset=1/\f2.offset=2/\f3.offset=3)(c:P.cellsOf f0.type=1/\P.cellsOf f1.type=1/\P.cellsOf f2.type=1/\P.cellsOf f3.type=1):iW enc P W t Y.eV:=by
 obtain⟨o0,o1,o2,o3⟩:=o;obtain⟨c0,c1,c2,c3⟩:=c;intro fuel cs x h;obtain⟨xs,n,_,_,hl,Ft,hf⟩:=DataW.trod_struct hs h;rw[hc] at hl
 match cs,hl,xs,Ft with
 |[u0,u1,u2,u3],_,[x0,x1,x2,x3],_=>
  have e0:=hf 0 f0 rfl;rw[o0,c0] at e0;have e1:=hf 1 f1 rfl;rw[o1,c1] at e1;have e2:=hf 2 f2 rfl;rw[o2,c2] at e2;have e3:=hf 3 f3 rfl;rw[o3,c3] at e3;obtain⟨a0,q0,_⟩:=DataW.trod_int h0 e0;obtain⟨a1,v1,q1,q1'⟩:=F _ _ _ e1;obtain⟨a2,v2,q2,q2'⟩:=R _ _ _ e2;obtain⟨a3,v3,q3,q3'⟩:=h3 _ _ _ e3;simp at q0 q1 q2 q3;subst q0 q1 q2 q3;exact⟨⟨a0,a1,a2,a3⟩,_,_,_,rfl,q1',q2',q3'⟩
theorem LD{f0 f1:Field}(hs:P.underlying t=some (.struct #[f0,f1]))(h0:P.underlying f0.type=some (.int .i64))(F:iW enc P W f1.type Y.eV.slice)(hc:P.cellsOf t=2)(o:f0.offset=0/\f1.offset=1)(c:P.cellsOf f0.type=1/\P.cellsOf f1.type=1):iW enc P W t Y.eC:=by
 obtain⟨o0,o1⟩:=o;obtain⟨c0,c1⟩:=c;intro fuel cs x h;obtain⟨xs,n,_,_,hl,Ft,hf⟩:=DataW.trod_struct hs h;rw[hc] at hl
 match cs,hl,xs,Ft with
 |[u0,u1],_,[x0,x1],_=>
  have e0:=hf 0 f0 rfl;rw[o0,c0] at e0;have e1:=hf 1 f1 rfl;rw[o1,c1] at e1;obtain⟨a0,q0,_⟩:=DataW.trod_int h0 e0;obtain⟨a1,v1,q1,q1'⟩:=F _ _ _ e1;simp at q0 q1;subst q0 q1;exact⟨⟨a0,a1⟩,_,rfl,q1'⟩
theorem LF(ha:P.underlying t=some (.array 2 e))(he:P.underlying e=some (.int .i64))(hc:P.cellsOf t=2)(c0:P.cellsOf e=1):iW enc P W t Y.msg:=by
 intro fuel cs x h;obtain⟨xs,n,_,_,hl,Ft,hf⟩:=DataW.trod_array ha h;rw[hc] at hl
 match cs,hl,xs,Ft with
 |[u0,u1],_,[x0,x1],_=>
  have e0:=hf 0 (by omega);have e1:=hf 1 (by omega);rw[c0] at e0 e1;obtain⟨a,ha,_⟩:=DataW.trod_int he e0;obtain⟨b,I,_⟩:=DataW.trod_int he e1;simp at ha I;exact⟨(a,b),by rw[ha,I];rfl⟩
theorem Je{k:FloatKind}{fuel:Nat}{cs:List Value}{x:DataW ar×List MemPlace}(ht:P.underlying t=some (.float k))(h:DataW.trod enc P W 0 (λ_=>true) true fuel t cs=some x):∃b,cs=[.float k b]/\(Lit.float k b).wf=true:=by
 cases fuel with
 |zero=>simp[DataW.trod] at h
 |succ n=>
  unfold DataW.trod at h;rw[ht] at h;split at h<;>simp_all
theorem Gd{g0 g1 p0 p1 p2 s0 s1 s2:Field}{fuel:Nat}{cs:List Value}{x:DataW ar×List MemPlace}(hs:P.underlying t=some (.struct #[s0,s1,s2]))(hp:P.underlying s0.type=some (.struct #[p0,p1,p2]))(hg:P.underlying p0.type=some (.struct #[g0,g1]))
 (k0:P.underlying g0.type=some (.int .i64))(k1:iW enc P W g1.type Y.msg.slice)(k2:iW enc P W p1.type Y.eC.slice)(k3:P.underlying p2.type=some .bool)(k4:P.underlying s1.type=some (.float .f64))(k5:iW enc P W s2.type Y.aQ.slice)
 (hc:P.cellsOf t=6)(c4:P.cellsOf s0.type=4)(c2:P.cellsOf p0.type=2)(o:(g0.offset=0/\g1.offset=1)/\(p0.offset=0/\p1.offset=2/\p2.offset=3)/\s0.offset=0/\s1.offset=4/\s2.offset=5)
 (c:(P.cellsOf g0.type=1/\P.cellsOf g1.type=1)/\(P.cellsOf p1.type=1/\P.cellsOf p2.type=1)/\P.cellsOf s1.type=1/\P.cellsOf s2.type=1)(h:DataW.trod enc P W 0 (λ_=>true) true fuel t cs=some x):
 ∃(a:Ap)(b:Nat)(cI:List (Int×Int×Int))(vL vT vA:Value),cs=[.int .i64 a.n,vL,vT,.bool a.bF,.float .f64 b,vA]/\b<2^64/\ay Y.msg false W (bO 0 W.1.size) vL a.az/\ay Y.eC false W (bO 0 W.1.size) vT a.T/\ay Y.aQ false W (bO 0 W.1.size) vA cI:=by
 obtain⟨⟨og0,og1⟩,⟨op0,op1,op2⟩,os0,os1,os2⟩:=o;obtain⟨⟨cg0,cg1⟩,⟨cp1,cp2⟩,cs1,cs2⟩:=c;obtain⟨xs,n,_,_,hl,Ft,hf⟩:=DataW.trod_struct hs h;rw[hc] at hl
 match cs,hl,xs,Ft with
 |[u0,u1,u2,u3,u4,u5],_,[x0,x1,x2],_=>
  have e0:=hf 0 s0 rfl;have e1:=hf 1 s1 rfl;have e2:=hf 2 s2 rfl;rw[os0,c4] at e0;rw[os1,cs1] at e1;rw[os2,cs2] at e2;obtain⟨b,q4,hw⟩:=Je k4 e1;obtain⟨a5,v5,q5,r5⟩:=k5 _ _ _ e2;obtain⟨ys,m,_,_,DH,Vo,PE⟩:=DataW.trod_struct hp e0
  match ys,Vo with
  |[y0,y1,y2],_=>
   have d0:=PE 0 p0 rfl;have d1:=PE 1 p1 rfl;have d2:=PE 2 p2 rfl;rw[op0,c2] at d0;rw[op1,cp1] at d1;rw[op2,cp2] at d2;obtain⟨a2,v2,q2,r2⟩:=k2 _ _ _ d1;obtain⟨a3,q3,_⟩:=DataW.trod_bool k3 d2;obtain⟨zs,m2,_,_,hl3,T5,Uh⟩:=DataW.trod_struct hg d0
   match zs,T5 with
   |[z0,z1],_=>
    have b0:=Uh 0 g0 rfl;have b1:=Uh 1 g1 rfl;rw[og0,cg0] at b0;rw[og1,cg1] at b1;obtain⟨a0,q0,_⟩:=DataW.trod_int k0 b0;obtain⟨a1,v1,q1,r1⟩:=k1 _ _ _ b1;simp at q0 q1 q2 q3 q4 q5;subst q0 q1 q2 q3 q4 q5;exact⟨⟨a0,a1,a2,a3⟩,b,a5,_,_,_,rfl,by simpa[Lit.wf] using hw,r1,r2,r5⟩
end
section
variable{ar:Type}{enc:TypeId×Value->ar}{W:World}
theorem LG:iW enc prog W 36 Y.int.slice:=je underlying36 (by kernel_rfl) (Ov underlying3)
theorem Jf:iW enc prog W 79 Y.jc.slice:=je underlying79 (by kernel_rfl) (LB underlying178 underlying3 underlying3 underlying3 (by kernel_rfl) ⟨rfl,rfl,rfl⟩ ⟨by kernel_rfl,by kernel_rfl,by kernel_rfl⟩)
theorem Jg:iW enc prog W 174 Y.msg.slice:=je underlying174 (by kernel_rfl) (Oy underlying205 underlying3 underlying3 (by kernel_rfl) rfl rfl (by kernel_rfl) (by kernel_rfl))
theorem Jh:iW enc prog W 78 Y.lh.slice:=je underlying78 (by kernel_rfl) (LC underlying176 underlying3 Jg (by kernel_rfl) ⟨rfl,rfl⟩ ⟨by kernel_rfl,by kernel_rfl⟩)
theorem Ge:iW enc prog W 82 Y.eV.slice:=je underlying82 (by kernel_rfl) (Jd underlying81 underlying3 LG Jh Jf (by kernel_rfl) ⟨rfl,rfl,rfl,rfl⟩ ⟨by kernel_rfl,by kernel_rfl,by kernel_rfl,by kernel_rfl⟩)
theorem Ji:iW enc prog W 25 Y.eC.slice:=je underlying25 (by kernel_rfl) (LD underlying84 underlying3 Ge (by kernel_rfl) ⟨rfl,rfl⟩ ⟨by kernel_rfl,by kernel_rfl⟩)
theorem LH:iW enc prog W 29 Y.aQ.slice:=je underlying29 (by kernel_rfl) (Oz underlying69 underlying3 underlying3 underlying3 (by kernel_rfl) ⟨rfl,rfl,rfl⟩ ⟨by kernel_rfl,by kernel_rfl,by kernel_rfl⟩)
theorem Jj:iW enc prog W 22 Y.msg.slice:=je underlying22 (by kernel_rfl) (LF underlying129 underlying3 (by kernel_rfl) (by kernel_rfl))
theorem LI{v:Value}{d:DataW ar}{p:List MemPlace}{base:Nat}(hv:Value.okWide prog W .any base 31 v)(h:DataW.Trod enc prog W 0 (λ_=>true) true 31 v d p):
 ∃(a:Ap)(b:Nat)(cI:List (Int×Int×Int))(gA TA cA:Option Addr)(gk Tk ck:Nat),v=.agg #[a.n,.slice gA a.az.length gk,.slice TA a.T.length Tk,a.bF,.float .f64 b,.slice cA cI.length ck]/\b<2^64/\
  ay Y.msg false W (bO 0 W.1.size) (.slice gA a.az.length gk) a.az/\ay Y.eC false W (bO 0 W.1.size) (.slice TA a.T.length Tk) a.T/\ay Y.aQ false W (bO 0 W.1.size) (.slice cA cI.length ck) cI:=by
 obtain⟨cs,rfl,_⟩:=okWide_struct underlying31 hv;obtain⟨fuel,hf⟩:=h;obtain⟨a,b,cI,vL,vT,vA,e,I,F,R,h3⟩:=Gd underlying31 underlying27 underlying24 underlying3 Jj Ji underlying4 underlying28 LH (by kernel_rfl) (by kernel_rfl) (by kernel_rfl) ⟨⟨rfl,rfl⟩,⟨rfl,rfl,rfl⟩,rfl,rfl,rfl⟩ ⟨⟨by kernel_rfl,by kernel_rfl⟩,⟨by kernel_rfl,by kernel_rfl⟩,by kernel_rfl,by kernel_rfl⟩ hf;have k1:=F;have k2:=R;have k3:=h3;obtain⟨gA,gk,rfl,-⟩:=k1;obtain⟨TA,Tk,rfl,-⟩:=k2;obtain⟨cA,ck,rfl,-⟩:=k3;exact⟨a,b,cI,gA,TA,cA,gk,Tk,ck,by simp[Value.cells] at e;rw[<-Array.toArray_toList (xs:=cs),e],I,F,R,h3⟩
end
end Go.Proofs.YtmgahjkopiaglaaGreat
namespace Go.Proofs.YtmgahjkopiaglaaGreat.topRoom
open Go.Proofs.Tryz
open Go.ChangeShapes Go.WideShapes Go.ChangeAt Go.RowKit Go.Proofs.YtmgahjkopiaglaaGreat
open Go.ChangeMaps (open_string shut_string)
set_option linter.unusedVariables false
theorem own:ownKnob prog.godebug=none:=by kernel_rfl
theorem laid:laidOutB prog=true:=by kernel_rfl
theorem lifted(os:Os)(started:os.Started)(ar:Type)(enc:TypeId×Value->ar):
 ReturnsInHanded {} Tryz.checked os 3 .any (Rows.topRoomSpec.pre6 enc prog Tryz.f3 Rows.topRoomRow.domain false) (Rows.topRoomSpec.post enc prog Tryz.f3 false true false false):=by
 refine returnsInHanded_of_change (C:=Tryz.checked) own started (by kernel_rfl) func3
  (ChangeSpec.witness6 (enc:=enc) (C:=Tryz.checked) false ⟨#[],#[.agg #[aP,(),(),false,.float .f64 0,()],.float .f64 0],[]⟩ 8 (by kernel_rfl) (by kernel_rfl) (by kernel_rfl) (by kernel_rfl)) ?_
 intro W base args ds gs before aay hW akH _;have Xn:∀(j:Nat) t v,Tryz.f3.params[j]?=some t->args[j]?=some v->Value.okWide prog W .any base t v:=aay;have hW':=hW;obtain⟨p,q,gD,hV,rfl,hfz,AA⟩:=hW;have hA:DataW.TrodAll enc prog W 0 (λ_=>true) true Tryz.f3.params.toList args.toList ds p:=gD;have hAk:=hA;rw[Tryz.params3] at hA Xn;obtain⟨v0,vs0,d0,ds0,p0,q0,Ro,rfl,rfl,h0,r0⟩:=trodAll_cons hA;obtain⟨v1,vs1,d1,ds1,p1,q1,rfl,rfl,rfl,F,r1⟩:=trodAll_cons r0;obtain⟨rfl,rfl,rfl⟩:=trodAll_nil r1;obtain rfl:args=#[v0,v1]:=by cases args;simp_all
 obtain⟨rfl,rfl⟩:=trodVars_none hV;simp only[List.append_nil] at hW';obtain⟨a,b,cI,gA,TA,cA,gK,TK,cK,rfl,I,k1,k2,k3⟩:=LI (Xn 0 31 v0 rfl rfl) h0;obtain⟨b1,rfl,rfl,rfl,w1⟩:=open_float underlying28 (Xn 1 28 v1 rfl rfl) F;refine(aaq gA TA cA gK TK cK a b b1 cI W (bO 0 W.1.size) (λb q=>bO.hi q) k1 k2 k3 I (by simpa[Lit.wf] using w1)).mono λe W' ⟨he,hg⟩=>?_;subst he;exact⟨_,rfl,Rn (P:=prog) laid rfl (by intro t ht;rw[Tryz.params3] at ht;simp at ht;rcases ht with rfl |rfl<;>exact⟨by kernel_rfl,eM (by kernel_rfl)⟩) (by kernel_rfl) underlying4 hW' (by have:=hAk;first |(simp only[List.append_nil] at this;exact this)|(simp only[List.append_nil] at this⊢;exact this)) rfl hg⟩
theorem gJ:Rows.topRoomRow.holds Tryz.pinned (OpenSpec.ofChange Rows.topRoomSpec):=
 OpenClaim.holds_of_wide 3 Tryz.f3 rfl rfl rfl rfl rfl rfl rfl ⟨rfl,rfl,rfl,rfl,rfl⟩ rfl rfl rfl rfl rfl (by kernel_rfl) func3 (by kernel_rfl)
  (eM (by kernel_rfl)) (by unfold Func.isWrapper;first |(rw[aS (by decide+kernel)];kernel_rfl)|(rw[aO (by decide+kernel)];exact⟨rfl,rfl⟩))
  (λos started ar enc _=>lifted os started ar enc)
theorem proved:Rows.TopRoomSaid:=gJ
end Go.Proofs.YtmgahjkopiaglaaGreat.topRoom
