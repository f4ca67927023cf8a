/- Lemmas, walks and contracts by which the statement is proved. -/
import Derived.Test.YtmgahjkopiaglaaGreatK38
set_option maxRecDepth 100000
set_option maxHeartbeats 16000000
set_option linter.all false
namespace Go.Proofs.YtmgahjkopiaglaaGreat
open Go.RowKit Go.Proofs.Tryz
theorem Tryz.Rb:(prog.info? 105).map (λi=>(i.zero,i.size,i.bytes))=some (some (.agg #[false,aP,()]),3,40):=by kernel_rfl
theorem Tryz.Oc:(prog.info? 106).map (λi=>(i.zero,i.size,i.bytes))=some (some (.agg #[aP,aP,aP,aP,aP,aP,aP]),7,56):=by kernel_rfl
theorem Tryz.Rd:(prog.info? 121).map (λi=>(i.zero,i.size,i.bytes))=some (some (.agg #[aP,aP,aP,(),(),aP,(),aP,aP,aP,(),(),(),aP,aP,aP,aP,(),(),(),aP,aP,aP,(),(),aP,aP,()]),28,416):=by kernel_rfl
structure NI(W:World)(lo nb:Nat)(a:Ap)(c:Int)(vA vP:Value)(ls:List La)(m:Nat)(y:World)(lJ lU GC o6:Value):Prop where
 GS:dw m 11 (∃ar,lJ=.slice (some ⟨ar,0,none⟩) 1 1/\G y ar #[a.bF,c,()] 105/\W.1.size<=ar)
 r8:dw m 12 (cj Y.la 105 lo y (λ_=>False) lU (ls++[⟨a.bF,c,[]⟩]))
 n12:m.testBit 12=false->cj Y.la 105 lo y (λ_=>False) vA ls
 b17:dw m 17 (GC=vP)
 b19:dw m 19 (∃ar,o6=.slice (some ⟨ar,0,none⟩) 1 1/\G y ar #[aP,aP,aP,aP,aP,aP,aP] 106/\W.1.size<=ar)
 g:W.grownBy y vA.ownBlock
 l12:m.testBit 12=true->m.testBit 11=true
section
variable{W y:World}{lo nb:Nat}{a:Ap}{c:Int}{vA vP:Value}{ls:List La}{m:Nat}{lJ lU GC o6:Value}
theorem NI.start(h:cj Y.la 105 lo W (λ_=>False) vA ls)(F:m.testBit 11=false)(R:m.testBit 12=false)(h3:m.testBit 17=false)(h4:m.testBit 19=false):NI W lo nb a c vA vP ls m W lJ lU GC o6:=
 ⟨dw.none F,dw.none R,λ_=>h,dw.none h3,dw.none h4,ka _ _,λq=>(by rw[R] at q;cases q)⟩
theorem NI.ZZ(h:NI W lo nb a c vA vP ls m y lJ lU GC o6):NI W lo nb a c vA vP ls (m|||2^11) (y.alloc (.cells #[a.bF,c,()] 105)) (.slice y.1.size 1 1) lU GC o6:=
 have I:Below y.1.size y (y.alloc (.cells #[a.bF,c,()] 105)):=cT.alloc bE _
 ⟨dw.now ⟨_,rfl,G.new _ _ _,h.g.size⟩,h.r8.other (by decide) λq=>q.next I λ_ q=>q.elim,λq=>(h.n12 (by rwa[aW (by decide)] at q)).next I λ_ q=>q.elim,h.b17.other (by decide) id,
  h.b19.other (by decide) λ⟨ar,q1,q2,q3⟩=>⟨ar,q1,q2.next I,q3⟩,aN h.g (aT I),λ_=>kI⟩
theorem NI.s19(h:NI W lo nb a c vA vP ls m y lJ lU GC o6):NI W lo nb a c vA vP ls (m|||2^19) (y.alloc (.cells #[aP,aP,aP,aP,aP,aP,aP] 106)) lJ lU GC (.slice y.1.size 1 1):=
 have I:Below y.1.size y (y.alloc (.cells #[aP,aP,aP,aP,aP,aP,aP] 106)):=cT.alloc bE _
 ⟨h.GS.other (by decide) λ⟨ar,q1,q2,q3⟩=>⟨ar,q1,q2.next I,q3⟩,h.r8.other (by decide) λq=>q.next I λ_ q=>q.elim,λq=>(h.n12 (by rwa[aW (by decide)] at q)).next I λ_ q=>q.elim,h.b17.other (by decide) id,
  dw.now ⟨_,rfl,G.new _ _ _,h.g.size⟩,aN h.g (aT I),λq=>km (h.l12 (by rwa[aW (by decide)] at q))⟩
theorem NI.s17(h:NI W lo nb a c vA vP ls m y lJ lU GC o6):NI W lo nb a c vA vP ls (m|||2^17) y lJ lU vP o6:=
 ⟨h.GS.other (by decide) id,h.r8.other (by decide) id,λq=>h.n12 (by rwa[aW (by decide)] at q),dw.now rfl,h.b19.other (by decide) id,h.g,λq=>km (h.l12 (by rwa[aW (by decide)] at q))⟩
theorem NI.Zg{v':Value}{w':World}(h:NI W lo nb a c vA vP ls m y lJ lU GC o6)(F:cj Y.la 105 lo w' (λ_=>False) v' (ls++[⟨a.bF,c,[]⟩]))(hg:y.grownBy w' vA.ownBlock)(Bu:∀b,vA.ownBlock=some b->b<W.1.size)(X2:m.testBit 11=true):NI W lo nb a c vA vP ls (m|||2^12) w' lJ v' GC o6:=
 ⟨h.GS.other (by decide) λ⟨ar,q1,q2,q3⟩=>⟨ar,q1,q2.grown hg (λe=>(by have:=Bu _ e;omega)),q3⟩,dw.now F,λq=>(by rw[kI] at q;cases q),h.b17.other (by decide) id,
  h.b19.other (by decide) λ⟨ar,q1,q2,q3⟩=>⟨ar,q1,q2.grown hg (λe=>(by have:=Bu _ e;omega)),q3⟩,aN h.g hg,λ_=>km X2⟩
end
theorem Lq{n:Int}{l:List (Int×Int)}{T:List iD}(h:Tb.right n l T=true):(T.length:Int)=n:=by
 unfold Tb.right at h;simp only[cQ,dC] at h;exact h.2.1
def UU(lo nb:Nat)(w:World)(vA vP vN:Value):Nat->Prop:=λb=>lo<=b/\b<w.1.size/\b≠nb/\vA.ownBlock≠some b/\vP.ownBlock≠some b/\vN.ownBlock≠some b
def WV(lo:Nat)(a:Ap)(b:Nat)(y:Ending)(w':World):Prop:=
 (∃e:Int,y=.returned (.tuple #[.pointer none,e])/\e≠0/\e=if Tb.right a.n a.az a.T=false then 11 else Rc.tp b)\/
 (Tb.right a.n a.az a.T=true/\Rc.tp b=0/\∃s:NA,y=.returned (.tuple #[.pointer s.nb,aP])/\(∀k,¬s.ex k)/\bU w' lo a (V.rO a (Rc.iz b)) s)
theorem Z0(gA TA:Option Addr)(gK Tk:Nat)(a:Ap)(b:Nat)(w:World)(S:Nat->Prop)(hS:∀b,S b->b<w.1.size)(ha:da Y.ap w S (.agg #[a.n,.slice gA a.az.length gK,.slice TA a.T.length Tk,a.bF]) a)(I:b<2^64)(hL:a.az.length<=1000)(hn:a.n<=1000):
 Calls prog 14 #[.agg #[a.n,.slice gA a.az.length gK,.slice TA a.T.length Tk,a.bF],.float .f64 b] w λy w'=>WV w.1.size a b y w'/\Below w.1.size w w':=by
 obtain⟨c,hc⟩:=cJ (Rc.iz b);obtain⟨e0,sf⟩:=cJ (Rc.tp b);have mZ:=ha.ap;have HAP:=U ha;change aK _ at hc sf;clear mZ;obtain⟨nD,mU,mV,mm,e,kX,lM⟩:=ha.ap;injection e with e;injection e with e;injection e with _ e;injection e with e1 e;injection e with e2 e
 rw[<-e1] at kX;rw[<-e2] at lM;change aK _ at hS;replace kX:=U kX;replace lM:=U lM;clear ha e1 e2 e;go_in;go_upto_region 1 with fail
 refine nw λW1 b2 ee=>?_;have z1:=b2.lt;have O:=ch b2;go_wp2_with fail;clear O;refine(ri _ _ a.T a.n a.az W1 S (j2 hS ee.size) (lM.aE (dx hS ee)) (kX.aE (dx hS ee)) hL).mono ?_;rintro _ W2 ⟨rfl,I⟩;replace b2:=b2.next I;have J:=dW ee I;have z2:=I.size;clear I ee;cases hT:Tb.right a.n a.az a.T
 case false=>
  change aK _ at hT;go_wp2;go_ret2;exact⟨.inl ⟨11,rfl,by decide,by rw[hT.Z];rfl⟩,J⟩
 have hlen:=Lq hT;change aK _ at hT;replace hlen:=U hlen;go_wp2_with fail;refine(US b W2 I).mono ?_;rintro _ _ ⟨rfl,rfl⟩;rw[hc.Z,sf.Z];by_cases he:e0=0
 case neg=>
  have b0:(e0 !=0)=true:=by simpa using he
  replace he:=U he;go_wp2;go_ret2;exact⟨.inl ⟨e0,rfl,he.Z,by rw[hT.Z,sf.Z];rfl⟩,J⟩
 subst he;have O:=ch b2;go_upto_region 7 with fail
 clear O;refine nw λW3 b8 I=>?_;obtain⟨nb,iK⟩:=cJ W2.1.size;obtain⟨lo,pe⟩:=cJ w.1.size;have znb:=J.size;replace b2:=b2.next I;have fO:Below w.1.size w W3:=dW J I;have z3:=I.size;rw[iK] at b8⊢;rw[pe] at b2 fO⊢;have sM:lo<nb:=by omega
 have hlw:lo<=w.1.size:=by omega
 clear I J znb z3 iK;have Ds:=U b2;have O:=ch b2;go_wp2;clear O;go_loopg [31] a.az.length (λq u wr=>∃(j:Nat)(vA vP:Value),u=.int .i64 (j:Int)/\j<=a.az.length/\q=a.az.length-j/\G wr nb #[vA,vP,a.n,.slice gA a.az.length gK,.slice TA a.T.length Tk,a.bF,(),aP,.int .i64 (-1),aP] 102/\G wr lo #[a.n,.slice gA a.az.length gK,.slice TA a.T.length Tk,a.bF] 27/\cj Y.la 105 lo wr (λ_=>False) vA (List.replicate j ⟨a.bF,c,[]⟩)/\cj Y.seven 106 lo wr (λ_=>False) vP (List.replicate j ())/\Below lo w wr)
 case atStart=>exact⟨0,.slice none 0 0,.slice none 0 0,rfl,by omega,by omega,b8,Ds.Z,cj.nil _ _ _ _ _,cj.nil _ _ _ _ _,fO⟩
 case round=>
  clear b8 Ds fO b2;obtain⟨j,vA,vP,rfl,hj,Q,b8,b2,hA,hP,J⟩:=hrel;have Hk:=U Q;clear Q;by_cases bY:j<a.az.length
  case neg=>
   obtain rfl:j=a.az.length:=by omega
   obtain⟨gR,kR,rfl,_,_⟩:=hA.form;obtain⟨gQ,kQ,rfl,_,_⟩:=hP.form;simp only[jM] at hA hP b8;have N0:=U b8;have HA:=U hA;have HBP:=U hP;have HB:=U J;have Ds:=U b2;clear b8 hA hP J;have O:=ch b2;go_wp2;clear O b2;go_loopg [9,64] a.n.toNat (λq _ u wx=>∃(i:Nat)(vN:Value),u=.int .i64 (i:Int)/\(i:Int)<=a.n/\q=a.n.toNat-i/\G wx nb #[.slice gR a.az.length kR,.slice gQ a.az.length kQ,a.n,.slice gA a.az.length gK,.slice TA a.T.length Tk,a.bF,vN,aP,.int .i64 (-1),aP] 102/\G wx lo #[a.n,.slice gA a.az.length gK,.slice TA a.T.length Tk,a.bF] 27/\cj Y.la 105 lo wx (λ_=>False) (.slice gR a.az.length kR) (List.replicate a.az.length ⟨a.bF,c,[]⟩)/\cj Y.seven 106 lo wx (λ_=>False) (.slice gQ a.az.length kQ) (List.replicate a.az.length ())/\
    cj Y.nd 121 lo wx (UU lo nb wx (.slice gR a.az.length kR) (.slice gQ a.az.length kQ) vN) vN ((List.range i).map λk:Nat=>V.rM a (k:Int))/\Below lo w wx)
   case atStart=>exact⟨0,.slice none 0 0,rfl,by have:=hlen.Z;omega,by omega,N0.Z,Ds.Z,HA.Z,HBP.Z,cj.nil _ _ _ _ _,HB.Z⟩
   case round=>
    clear N0 HA HBP HB Ds;obtain⟨i,vN,rfl,hi,Q,b8,b2,hA,hP,hN,J⟩:=hrel;replace Q:=U Q;have sB:=J.size;by_cases rY:(i:Int)<a.n
    case neg=>
     have T7:i=a.n.toNat:=by omega
     subst T7;have N0:=U b8;replace hA:=U hA;replace hP:=U hP;replace J:=U J;replace hN:=U hN;have O:=ch b2;go_wp2;go_ret2;refine⟨.inr ⟨hT.Z,sf.Z,⟨nb,.slice gR a.az.length kR,.slice gQ a.az.length kQ,vN,gA,TA,gK,Tk,λ_=>False⟩,rfl,λ_ q=>q,?_⟩,J.Z⟩;rw[hc.Z];have DI:∀b,S b->b<lo:=λb q=>by have:=hS.Z b q;omega
     exact⟨b8,Nat.le_of_lt sM,λ_ q=>q.elim,hA.aF (λ_ q=>q.elim) (λb e q=>q.1.2.2.1 e),(by show cj Y.seven _ _ _ _ _ (List.replicate (List.replicate a.az.length _).length ());rw[jM];exact hP.Z),
      hN.aF (λb q=>⟨⟨q.2.1,q.2.2.1,q.2.2.2.1,q.2.2.2.2.1,q.2.2.2.2.2⟩,id⟩) (λb e q=>q.1.2.2.2.2 e),
      (HAP.aE (λb q=>J.block b (DI b q))).aF λb q=>⟨⟨by have:=DI b q;omega,by have:=DI b q;show b≠nb;omega,λe=>by have:=(hA.lt b e).1;have:=DI b q;omega,λe=>by have:=(hP.lt b e).1;have:=DI b q;omega,λe=>by have:=(hN.lt b e).1;have:=DI b q;omega⟩,id⟩⟩
    obtain⟨gN,kN,rfl,_,_⟩:=hN.form;simp only[ic,List.length_range] at b8 hN;go_upto_region 14 with fail
    refine rg 128 λW5 I K=>?_;replace b8:=b8.next I;replace b2:=b2.next I;replace hA:=hA.next I (λ_ q=>q.elim);replace hP:=hP.next I (λ_ q=>q.elim);replace hN:=(hN.next I (λb q=>q.2.1)).aF (S':=UU lo nb W5 (.slice gR a.az.length kR) (.slice gQ a.az.length kQ) (.slice gN i kN)) (λb q=>⟨q.1,aU q.2.1 I.size,q.2.2⟩) (λb e q=>q.2.2.2.2.2 e);replace J:=J.trans (I.mono (by omega));clear I;have N0:=U b8;have Ds:=U b2;have zB:=J.size;replace hA:=U hA;replace hP:=U hP;replace J:=U J;replace hN:=U hN;have O:=eE b8 b2;refine rD [1] 12 ?_;go_wp2;refine iJ ?_;refine tK 2 ?_;refine aG [5,6] 9 ?_;go_wp2;refine rJ [3,4] 7 ?_;go_wp2;refine iJ ?_;refine tK 0 ?_;clear O;refine oN 7 ?_;go_wp2_with fail;refine(QC _ a i W5 S (λb q=>by have:=hS.Z b q;omega) (HAP.aE λb q=>J.block b (by have:=hS.Z b q;omega)) hL rY hlen.Z).mono ?_;rintro _ W6 ⟨⟨u,rfl,hu⟩,I⟩;obtain⟨D0,D1,D2,D3,D4,D5,D6,D7,D8,D9,D10,D11,D12,D13,D14,D15,D16,D17,D18,D19,D20,D21,D22,D23,rfl,nds⟩:=hu.nd;have HU:=U hu.Mj;clear hu nds;have b86:=N0.next I;have b26:=Ds.next I;have hA6:=hA.next I (λ_ q=>q.elim);have hP6:=hP.next I (λ_ q=>q.elim);have UK:=(hN.next I (λb q=>q.2.1)).aF (S':=UU lo nb W6 (.slice gR a.az.length kR) (.slice gQ a.az.length kQ) (.slice gN i kN)) (λb q=>⟨q.1,aU q.2.1 I.size,q.2.2⟩) (λb e q=>q.2.2.2.2.2 e);have LY:=J.trans (I.mono (by omega));replace K:=K.Gt I;have z6:=I.size;have zn:=N0.lt;have hq5:∀b,bO W5.1.size W6.1.size b->UU lo nb W6 (.slice gR a.az.length kR) (.slice gQ a.az.length kQ) (.slice gN i kN) b:=λb q=>⟨by have:=bO.lo q;omega,bO.hi q,by have:=bO.lo q;omega,λe=>by have:=(hA.lt b e).2;have:=bO.lo q;omega,λe=>by have:=(hP.lt b e).2;have:=bO.lo q;omega,λe=>by have:=(hN.lt b e).2;have:=bO.lo q;omega⟩;have HU2:=U (Y.nd.aF HU.Z hq5);have hA6:=U hA6;have hP6:=U hP6;have UK:=U UK;have LY:=U LY;clear N0 Ds hA hP hN J I hq5 HU b2 b8;go_wp2;refine⟨λ_=>K,?_⟩;refine aG [8] 4 ?_;go_wp2;refine fX ?_;refine Go.Proofs.YtmgahjkopiaglaaGreat.nb λW7 bx I=>?_;have Z1:=b86.next I;have Z2:=b26.next I;have XL:=hA6.next I (λ_ q=>q.elim);have hP7:=hP6.next I (λ_ q=>q.elim);have rR:=(UK.next I (λb q=>q.2.1)).aF (S':=UU lo nb W7 (.slice gR a.az.length kR) (.slice gQ a.az.length kQ) (.slice gN i kN)) (λb q=>⟨q.1,aU q.2.1 I.size,q.2.2⟩) (λb e q=>q.2.2.2.2.2 e);have OU:=LY.trans (I.mono (by omega));have hU7:=Y.nd.aF (Y.nd.aE HU2.Z λb q=>I.block b q.2.1) (S':=UU lo nb W7 (.slice gR a.az.length kR) (.slice gQ a.az.length kQ) (.slice gN i kN)) (λb q=>⟨q.1,aU q.2.1 I.size,q.2.2⟩);have z7:=I.size;have zx:=bx.lt;replace XL:=U XL;replace hP7:=U hP7;replace rR:=U rR;replace OU:=U OU;replace hU7:=U hU7;replace Z1:=U Z1;replace Z2:=U Z2;clear hA6 hP6 UK LY HU2 b86 b26 K I;refine oN 9 ?_;go_wp2_with (at_builtin;refine dv (r:=Y.nd) (y:=V.rM a (i:Int)) rfl (.tmp 71) (.tmp 75) 100 rfl lo 121 Tryz.Rd underlying100 rfl (by omega) (.slice gN i kN) rfl rR.Z (λb q=>q.2.1) (by omega) 1 W6.1.size _ rfl bx hU7.Z (by simp;omega) ?_;intro v2 w8 GA hg8 mW lp);first |change aV _ _ _ _ _ _ _ _ _ _|refine⟨λh=>absurd h (by decide),?_⟩
    obtain⟨gN2,kN2,lz,_,_⟩:=GA.form;rw[show((List.range i).map (λk:Nat=>V.rM a (k:Int))++[V.rM a (i:Int)]).length=i+1 by simp] at lz;subst lz;have Tu:=XL.grown hg8 (λ_ q=>q.elim) (λb e=>rR.type e) (by decide);have VM:=hP7.grown hg8 (λ_ q=>q.elim) (λb e=>rR.type e) (by decide);have OY:=Z1.grown hg8 (rR.bM Z1.Z (by decide));have WW:=Z2.grown hg8 (λe=>rR.bM Z2.Z (by decide) e);have Gn:=OU.grown hg8 (by omega) (λk e=>(rR.lt k e).1);have Z3:=Tu.bM OY (by decide);have Z5:=VM.bM OY (by decide);have nb4:=GA.bM OY (by decide);have Gz:=GA.aF (S':=UU lo nb w8 (.slice gR a.az.length kR) (.slice gQ a.az.length kQ) (.slice gN2 (i+1) kN2)) (λb q=>⟨q.1,aU q.2.1 hg8.size,q.2.2.1,q.2.2.2.1,q.2.2.2.2.1,λe=>lp.elim (λk=>q.2.2.2.2.2 (k▸e)) (λk=>by rw[k] at e;cases e;exact absurd q.2.1 (wh _))⟩) (λb e q=>q.2.2.2.2.2 e);have z8:=hg8.size;replace Gz:=U Gz;replace Tu:=U Tu;replace VM:=U VM;replace Gn:=U Gn;have B88:=U OY;replace WW:=U WW;clear GA hg8 mW lp XL hP7 rR OU hU7 Z1 Z2;have O:=ch OY;refine aG [10,11,12] 0 ?_;go_wp2;refine fX ?_;clear O;refine cd λW9 hW=>?_;refine eN ?_;have cW:bH nb w8 W9:=bH.eqv hW ((bH.refl _ _).bd 6 _);have Z6:G W9 nb #[.slice gR a.az.length kR,.slice gQ a.az.length kQ,a.n,.slice gA a.az.length gK,.slice TA a.T.length Tk,a.bF,.slice gN2 (i+1) kN2,aP,.int .i64 (-1),aP] 102:=G.eqv hW (B88.cC 6 _);have hBn:Below lo w W9:=Below.eqv hW (Gn.setCell (by show _<=nb;omega) _);clear hW;have GB:=WW.only cW (by omega);have X3:=Tu.only cW id Z3;have Nh:=VM.only cW id Z5;have Ey:=(Gz.only cW (λq=>q.2.2.1 rfl) nb4).aF (S':=UU lo nb W9 (.slice gR a.az.length kR) (.slice gQ a.az.length kQ) (.slice gN2 (i+1) kN2)) (λb q=>⟨q.1,by rw[cW.size];exact q.2.1,q.2.2⟩) (λb e q=>q.2.2.2.2.2 e);replace Ey:=U Ey;clear Z3 Z5 nb4 cW OY;go_wp2;go_roundg (a.n.toNat-(i+1))
    case rel=>
     refine⟨i+1,_,by simp,by omega,rfl,Z6,GB,X3,Nh,?_,hBn⟩;rw[List.range_succ,jP];exact Ey.Z
    case measure=>have:=Q.Z;omega
  obtain⟨gR,kR,rfl,_,_⟩:=hA.form;obtain⟨gQ,kQ,rfl,_,_⟩:=hP.form;simp only[jM] at hA hP b8;go_upto_region 9 with fail
  refine rg 0 λW4 I K=>?_;replace b8:=b8.next I;replace b2:=b2.next I;replace hA:=hA.next I (λ_ q=>q.elim);replace hP:=hP.next I (λ_ q=>q.elim);replace J:=J.trans (I.mono (by have:=J.size;omega));clear I K;have N0:=U b8;have HBP:=U hP;have HBA:=U hA;have Ds:=U b2;have zB:=J.size;refine tS 0 ?_;refine tS 1 ?_;refine tS 2 ?_;refine tS 3 ?_;refine tS 4 ?_;refine tS 5 ?_;refine tS 7 ?_;refine tS 9 ?_;refine tS 13 ?_;refine tS 14 ?_;have O:=eE b8 b2;refine aG [6,8,10] 16 ?_;go_wp2;clear O;refine sJ 15 ?_;refine tS 16 ?_;refine tS 18 ?_;refine qe λA0 gD=>?_;have CB:=U gD;obtain⟨INV,iy⟩:∃au:Nat->Act->World->Prop,∀m A y,au m A y↔∃lJ lU GC o6:Value,A=(((A0.put (some 44) lJ).put (some 45) lU).put (some 50) GC).put (some 52) o6/\NI W4 lo nb a c (.slice gR j kR) (.slice gQ j kQ) (List.replicate j ⟨a.bF,c,[]⟩) m y lJ lU GC o6:=⟨_,λ_ _ _=>Iff.rfl⟩;replace iy:=U iy;have Bu:∀b,(Value.slice gR j kR).ownBlock=some b->lo<=b/\b<W4.1.size:=hA.lt;have nbA:(Value.slice gR j kR).ownBlock≠some nb:=hA.bM b8 (by decide);have nbP:(Value.slice gQ j kQ).ownBlock≠some nb:=hP.bM b8 (by decide);refine j3 [11,12,17,19] 1048575 INV (by kernel_rfl) (by kernel_rfl) ?_ 9 ?_ 4 387071 _ _ (by kernel_rfl) ((iy _ _ _).2 ⟨u44,u45,u50,u52,by rw[<-gD];rfl,NI.start hA (by rfl) (by rfl) (by rfl) (by rfl)⟩)
  ·refine aZ ?_ (aZ ?_ (aZ ?_ (aZ ?_ iA)));all_goals
    rintro m A y iK hd hinv;obtain⟨lJ,lU,GC,o6,ha,H⟩:=(iy _ _ _).1 hinv
   ·replace H:=U H;replace hd:=U hd;replace iK:=U iK;clear hinv;rw[ha,<-CB.Z];clear ha gD;simp only[di,dX,Act.put,eX,dK,dR];go_wp2_with fail;try simp only[dI]
    try refine cD (λq=>absurd q (by decide)) ?_
    show INV (m|||2^11) _ _;refine(iy _ _ _).2 ⟨_,lU,GC,o6,?_,H.ZZ⟩;rw[<-CB.Z];rfl
   ·have X2:m.testBit 11=true:=dw.get (m:=m) (i:=11) (λh=>h) hd (by kernel_rfl);obtain⟨H3,e3,k1,k2⟩:=H.GS X2;subst e3;have VW:=H.n12 iK;have Vo:=H.g.size;replace k1:=U k1;replace VW:=U VW;replace H:=U H;replace hd:=U hd;replace iK:=U iK;clear hinv;rw[ha,<-CB.Z];clear ha gD;simp only[di,dX,Act.put,eX,dK,dR];refine dv (r:=Y.la) (y:=⟨a.bF,c,[]⟩) rfl (.tmp 39) (.tmp 44) 96 rfl lo 105 Tryz.Rb underlying96 rfl (by omega) (.slice gR j kR) rfl VW.Z (λ_ q=>q.elim) (by omega) 1 H3 [a.bF,.int .i64 c,()] rfl k1.Z ⟨_,rfl,ay.none_⟩ (by rw[jM];omega) ?_;intro v2 w9 im lE j7 nO;go_wp2_with fail;try simp only[dI]
    try refine cD (λq=>absurd q (by decide)) ?_
    show INV (m|||2^12) _ _;refine(iy _ _ _).2 ⟨_,_,GC,o6,?_,H.Zg im lE (λb e=>(Bu b e).2) X2⟩;rw[<-CB.Z];rfl
   ·have hbc:G y nb #[.slice gR j kR,.slice gQ j kQ,a.n,.slice gA a.az.length gK,.slice TA a.T.length Tk,a.bF,(),aP,.int .i64 (-1),aP] 102:=(H.g.block _ b8.lt (λe=>nbA e.symm)).trans b8;have O:=ch hbc;replace H:=U H;replace hd:=U hd;replace iK:=U iK;clear hinv;rw[ha,<-CB.Z];clear ha gD;simp only[di,dX,Act.put,eX,dK,dR];go_wp2_with fail;try simp only[dI]
    try refine cD (λq=>absurd q (by decide)) ?_
    show INV (m|||2^17) _ _;refine(iy _ _ _).2 ⟨lJ,lU,_,o6,?_,H.s17⟩;rw[<-CB.Z];rfl
   ·replace H:=U H;replace hd:=U hd;replace iK:=U iK;clear hinv;rw[ha,<-CB.Z];clear ha gD;simp only[di,dX,Act.put,eX,dK,dR];go_wp2_with fail;try simp only[dI]
    try refine cD (λq=>absurd q (by decide)) ?_
    show INV (m|||2^19) _ _;refine(iy _ _ _).2 ⟨lJ,lU,GC,_,?_,H.s19⟩;rw[<-CB.Z];rfl
  intro A w9 hinv;obtain⟨lJ,lU,GC,o6,ha,H⟩:=(iy _ _ _).1 hinv;rw[ha,<-CB.Z];clear ha gD hinv;simp only[Act.put,eX,dK,dR];obtain⟨H3,-,-,-⟩:=H.GS.done (by rfl);have X3:=H.r8.done (by rfl);obtain rfl:=H.b17.done (by rfl);obtain⟨H9,e9,k9,-⟩:=H.b19.done (by rfl);subst e9;have Mf:=H.g;have Z6:G w9 nb #[.slice gR j kR,.slice gQ j kQ,a.n,.slice gA a.az.length gK,.slice TA a.T.length Tk,a.bF,(),aP,.int .i64 (-1),aP] 102:=(Mf.block _ b8.lt (λe=>nbA e.symm)).trans b8;have GB:G w9 lo #[a.n,.slice gA a.az.length gK,.slice TA a.T.length Tk,a.bF] 27:=Ds.grown Mf (λe=>hA.bM Ds.Z (by decide) e);have Nh:=hP.grown Mf (λ_ q=>q.elim) (λb e=>hA.type e) (by decide);have RT:=J.grown Mf (by omega) (λk e=>(Bu k e).1);have zy:=Mf.size;replace X3:=U X3;replace k9:=U k9;replace Nh:=U Nh;replace Z6:=U Z6;replace GB:=U GB;replace RT:=U RT;clear H Mf b8 b2 hA hP J HBA HBP N0 Ds;refine oN 20 ?_;go_wp2_with (at_builtin;refine dv (r:=Y.seven) (y:=()) rfl (.tmp 50) (.tmp 52) 97 rfl lo 106 Tryz.Oc underlying97 rfl (by omega) (.slice gQ j kQ) rfl Nh.Z (λ_ q=>q.elim) (by omega) 1 H9 [aP,aP,aP,aP,aP,aP,aP] rfl k9.Z ⟨0,0,0,0,0,0,0,rfl⟩ (by rw[jM];omega) ?_;intro v2 w8 GA hg8 mW lp);first |change aV _ _ _ _ _ _ _ _ _ _|refine⟨λh=>absurd h (by decide),?_⟩
  obtain⟨gR2,kR2,nG,_,_⟩:=X3.form;rw[show(List.replicate j (⟨a.bF,c,[]⟩:La)++[(⟨a.bF,c,[]⟩:La)]).length=j+1 by simp] at nG;subst nG;obtain⟨gQ2,kQ2,lz,_,_⟩:=GA.form;rw[show(List.replicate j ()++[()]).length=j+1 by simp] at lz;subst lz;have Tu:=X3.grown hg8 (λ_ q=>q.elim) (λb e=>Nh.type e) (by decide);have OY:=Z6.grown hg8 nbP;have WW:=GB.grown hg8 (λe=>Nh.bM GB.Z (by decide) e);have Gn:=RT.grown hg8 (by omega) (λk e=>(Nh.lt k e).1);have Z3:=Tu.bM OY (by decide);have Z5:=GA.bM OY (by decide);replace GA:=U GA;replace Tu:=U Tu;replace Gn:=U Gn;have B88:=U OY;replace WW:=U WW;clear hg8 mW lp nbA nbP Bu;have O:=ch OY;refine aG [21,22,23,24,25,26,27,28] 0 ?_;go_wp2;refine fX ?_;clear O;refine cd λW5 hW=>?_;refine eN ?_;have cW:bH nb w8 W5:=bH.eqv hW (((bH.refl _ _).bd 0 _).bd 1 _);have b85:G W5 nb #[.slice gR2 (j+1) kR2,.slice gQ2 (j+1) kQ2,a.n,.slice gA a.az.length gK,.slice TA a.T.length Tk,a.bF,(),aP,.int .i64 (-1),aP] 102:=G.eqv hW (by simpa using(B88.cC 0 _).cC 1 _);have hBn:Below lo w W5:=Below.eqv hW ((Gn.setCell (by show _<=nb;omega) _).setCell (by show _<=nb;omega) _);clear hW;have UW:=WW.only cW (by omega);have hA5:=Tu.only cW id Z3;have hP5:=GA.only cW id Z5;clear Z3 Z5 cW OY;go_wp2;go_roundg (a.az.length-(j+1))
  case rel=>
   rw[<-List.replicate_succ'] at hA5;rw[<-show List.replicate (j+1) ()=List.replicate j ()++[()] from List.replicate_succ'] at hP5;exact⟨j+1,_,_,by simp,by omega,rfl,b85,UW,hA5,hP5,hBn⟩
  case measure=>have:=Hk.Z;omega
theorem Tryz.Od:(prog.info? 42).map (λi=>(i.zero,i.size,i.bytes))=some (some (.int .i64 0),1,8):=by kernel_rfl
theorem Tryz.I5:(prog.info? 71).map (λi=>(i.zero,i.size,i.bytes))=some (some (.agg #[aP,aP,aP,aP,aP]),5,40):=by kernel_rfl
theorem Tryz.I6:(prog.info? 87).map (λi=>(i.zero,i.size,i.bytes))=some (some (.agg #[aP,aP,aP,aP,aP,aP,aP,aP,(),(),(),(),false,(),aP,aP]),16,208):=by kernel_rfl
def Y.fd:Y Fd where
 size:=16
 pos:=by omega
 is _ _ _ cs p:=cs.length=16/\(∀u∈cs,u.oneCell'=true)/\cs[0]?=some (.int .i64 p.kind)/\cs[1]?=some (.int .i64 p.aC)/\cs[12]?=some (.bool p.gJ)
 len h:=h.1
 aE h _:=h
 aF h _:=h
 soft h:=h
 one h:=h.2.1
structure Lr where
 pb:Nat
 (vE vS vF:Value)
 fm:Int
abbrev OZ(s:NA)(q:Lr):Array Value:=#[q.vE,q.vS,q.vF,.slice none 0 0,.slice none 0 0,.slice none 0 0,.pointer s.nb,.int .i64 q.fm]
abbrev NA.more(s:NA)(w w':World):NA:={s with ex:=λb=>s.ex b\/(w.1.size<=b/\b<w'.1.size)}
structure fR(w:World)(lo:Nat)(a:Ap)(p:V.qz)(s:NA)(q:Lr):Prop where
 fJ:bU w lo a p.fJ s
 box:G w q.pb (OZ s q) 62
 rE:cj Y.int 42 lo w (λ_=>False) q.vE p.jB
 rS:cj Y.st 71 lo w (λ_=>False) q.vS p.steps
 rF:cj Y.fd 87 lo w (λ_=>False) q.vF p.eY
 xb:s.ex q.pb
 xE:∀b,q.vE.ownBlock=some b->s.ex b
 xS:∀b,q.vS.ownBlock=some b->s.ex b
 xF:∀b,q.vF.ownBlock=some b->s.ex b
 dk:∀b,s.ex b->DK w s b
 lt:lo<=q.pb
structure db(s:NA)(w:World)(s':NA)(w':World):Prop where
 os:w'.os=w.os
 tape:w'.tape=w.tape
 output:w'.output=w.output
 size:w.1.size<=w'.1.size
 nb:s'.nb=s.nb
 vA:s'.vA=s.vA
 vP:s'.vP=s.vP
 vN:s'.vN=s.vN
 block:∀b,DS w s b->w'.1[b]?=w.1[b]?
 ex:∀b,b<w.1.size->s'.ex b->s.ex b
section
variable{s s' s'':NA}{w w' qp:World}{lo:Nat}{a:Ap}{p:V.qz}{q:Lr}
theorem db.ds(h:db s w s' w'):∀b,DS w s b->DS w' s' b:=λb k=>
 ⟨⟨aU k.lt h.size,by rw[h.nb];exact k.1.2.1,by rw[h.vA];exact k.1.2.2.1,by rw[h.vP];exact k.1.2.2.2.1,by rw[h.vN];exact k.1.2.2.2.2⟩,λe=>k.2 (h.ex b k.lt e)⟩
theorem db.refl(s:NA)(w:World):db s w s w:=⟨rfl,rfl,rfl,bE,rfl,rfl,rfl,rfl,λ_ _=>rfl,λ_ _ e=>e⟩
theorem db.trans(h:db s w s' w')(h':db s' w' s'' qp):db s w s'' qp:=
 ⟨h'.os.trans h.os,h'.tape.trans h.tape,h'.output.trans h.output,bT h.size h'.size,h'.nb.trans h.nb,h'.vA.trans h.vA,h'.vP.trans h.vP,h'.vN.trans h.vN,λb k=>(h'.block b (h.ds b k)).trans (h.block b k),λb k e=>h.ex b k (h'.ex b (aU k h.size) e)⟩
theorem db.bx{b:Nat}{cs:Array Value}{T:TypeId}(h:db s w s' w')(I:G w b cs T)(hd:DS w s b):G w' b cs T:=(h.block b hd).trans I
theorem db.of(h:aY w w'):db s w s w':=⟨h.os,h.tape,h.output,h.size,rfl,rfl,rfl,rfl,λb k=>h.block b k.lt,λ_ _ e=>e⟩
theorem db.more(h:aY w w'):db s w (s.more w w') w':=⟨h.os,h.tape,h.output,h.size,rfl,rfl,rfl,rfl,λb k=>h.block b k.lt,λb k e=>e.elim id λe=>by omega⟩
theorem db.kept(h:cM s w w'):db s w s w':=⟨h.os,h.tape,h.output,h.size,rfl,rfl,rfl,rfl,λb k=>h.block b k.1,λ_ _ e=>e⟩
theorem db.grown{o:Option Nat}(hg:w.grownBy w' o)(ho:∀b,o=some b->s.ex b):db s w (s.more w w') w':=
 ⟨hg.os,hg.tape,hg.output,hg.size,rfl,rfl,rfl,rfl,λb k=>hg.block b k.lt λe=>k.2 (ho b e.symm),λb k e=>e.elim id λe=>by omega⟩
theorem db.only{b:Nat}(hs:bH b w w')(I:s.ex b):db s w s w':=⟨hs.os,hs.tape,hs.output,ca hs.size.symm,rfl,rfl,rfl,rfl,λk q=>hs.block k (q.ne I),λ_ _ e=>e⟩
theorem fR.Z7(h:fR w lo a p s q):DK w s q.pb:=h.dk _ h.xb
theorem fR.lS(h:fR w lo a p s q)(I:aY w w'):fR w' lo a p (s.more w w') q:=
 ⟨h.fJ.lS I _ λ_ k=>k,h.box.next I,h.rE.next I λ_ k=>k.elim,h.rS.next I λ_ k=>k.elim,h.rF.next I λ_ k=>k.elim,.inl h.xb,λb e=> .inl (h.xE b e),λb e=> .inl (h.xS b e),λb e=> .inl (h.xF b e),
  λb e=>e.elim (λe=>DK.up I.size b (h.dk b e)) λe=>h.fJ.eP e.1 e.2,h.lt⟩
theorem fR.next(h:fR w lo a p s q)(I:aY w w'):fR w' lo a p s q:=
 ⟨h.fJ.next I,h.box.next I,h.rE.next I λ_ k=>k.elim,h.rS.next I λ_ k=>k.elim,h.rF.next I λ_ k=>k.elim,h.xb,h.xE,h.xS,h.xF,λb e=>DK.up I.size b (h.dk b e),h.lt⟩
instance:Nx w w' (fR w lo a p s q) (fR w' lo a p s q):=⟨λq p=>p.next q⟩
theorem fR.call{t:Nt}(h:fR w lo a p s q)(hN:bU w' lo a t s)(Q:cM s w w'):fR w' lo a {p with fJ:=t} s q:=
 have aj:∀ {v:Value},(∀b,v.ownBlock=some b->s.ex b)->∀b,False\/v.ownBlock=some b->w'.1[b]?=w.1[b]?:=λD b k=>k.elim False.elim λe=>Q.block b (h.dk b (D b e))
 ⟨hN,Q.bx h.box h.Z7,h.rE.aE (aj h.xE),h.rS.aE (aj h.xS),h.rF.aE (aj h.xF),h.xb,h.xE,h.xS,h.xF,λb e=>DK.up Q.size b (h.dk b e),h.lt⟩
theorem fR.only{b:Nat}(h:fR w lo a p s q)(hs:bH b w w')(I:s.ex b)(n1:b≠q.pb)(n2:q.vE.ownBlock≠some b)(n3:q.vS.ownBlock≠some b)(n4:q.vF.ownBlock≠some b):fR w' lo a p s q:=
 ⟨h.fJ.OT hs I (h.dk b I),h.box.only hs (fT n1),h.rE.only hs id n2,h.rS.only hs id n3,h.rF.only hs id n4,h.xb,h.xE,h.xS,h.xF,λb e=>DK.up (ca hs.size.symm) b (h.dk b e),h.lt⟩
theorem fR.put(h:fR w lo a p s q)(hs:bH q.pb w w'){fm:Int}(I:G w' q.pb (OZ s {q with fm:=fm}) 62):fR w' lo a p s {q with fm:=fm}:=
 ⟨h.fJ.OT hs h.xb h.Z7,I,h.rE.only hs id (h.rE.bM h.box (by decide)),h.rS.only hs id (h.rS.bM h.box (by decide)),h.rF.only hs id (h.rF.bM h.box (by decide)),h.xb,h.xE,h.xS,h.xF,λb e=>DK.up (ca hs.size.symm) b (h.dk b e),h.lt⟩
theorem bU.more{t:Nt}{o:Option Nat}(h:bU w lo a t s)(hg:w.grownBy w' o)(ho:∀b,o=some b->s.ex b/\DK w s b):bU w' lo a t (s.more w w'):=
 have aj:∀b,b<w.1.size->o≠some b->w'.1[b]?=w.1[b]?:=λb k r=>hg.block b k λe=>r e.symm;have ai:∀b,DS w s b->DS w' (s.more w w') b:=λb k=>⟨DK.up hg.size b k.1,λr=>r.elim k.2 λr=>by have:=k.lt;omega⟩;have ab:∀b,DS w s b->w'.1[b]?=w.1[b]?:=λb k=>aj b k.lt λe=>k.2 (ho b e).1
 ⟨(aj _ h.box.lt λe=>(ho _ e).2.2.1 rfl).trans h.box,h.lt,λb k=>k.elim (λk=>aU (h.zN b k) hg.size) λk=>k.2,
  (h.rA.aE λb k=>k.elim (ab b) λk=>aj b (h.dA k).2.1 λe=>(ho b e).2.2.2.1 k).aF ai λb e k=>k.1.2.2.1 e,
  h.rP.aE λb k=>k.elim False.elim λk=>aj b (h.dP k).2.1 λe=>(ho b e).2.2.2.2.1 k,
  (h.rN.aE λb k=>k.elim (ab b) λk=>aj b (h.dN k).2.1 λe=>(ho b e).2.2.2.2.2 k).aF ai λb e k=>k.1.2.2.2.2 e,(h.ap.aE ab).aF ai⟩
theorem fR.kx(h:fR w lo a p s q){x:Int}{v:Value}(hr:cj Y.int 42 lo w' (λ_=>False) v (p.jB++[x]))(hg:w.grownBy w' q.vE.ownBlock)(hn:v.ownBlock=q.vE.ownBlock\/v.ownBlock=some w.1.size)(hs:bH q.pb w' qp)(I:G qp q.pb (OZ s {q with vE:=v}) 62):
 fR qp lo a {p with jB:=p.jB++[x]} (s.more w w') {q with vE:=v}:=
 have hd:DK w' (s.more w w') q.pb:=DK.up hg.size _ h.Z7;have ga:=h.box.grown hg (h.rE.bM h.box (by decide));have k1:=h.rS.grown hg (λ_ k=>k.elim) (λb e=>h.rE.type e) (by decide);have k2:=h.rF.grown hg (λ_ k=>k.elim) (λb e=>h.rE.type e) (by decide)
 ⟨(h.fJ.more hg λb e=>⟨h.xE b e,h.dk b (h.xE b e)⟩).OT hs (.inl h.xb) hd,I,hr.only hs id (hr.bM ga (by decide)),k1.only hs id (k1.bM ga (by decide)),k2.only hs id (k2.bM ga (by decide)),.inl h.xb,
  λb e=>hn.elim (λk=> .inl (h.xE b (k▸e))) λk=> .inr (by have:=hr.lt b e;rw[show(v.ownBlock=some b)=(some w.1.size=some b) by rw[k]] at e;injection e;omega),λb e=> .inl (h.xS b e),λb e=> .inl (h.xF b e),
  λb e=>DK.up (ca hs.size.symm) b (e.elim (λe=>DK.up hg.size b (h.dk b e)) λe=>h.fJ.eP e.1 e.2),h.lt⟩
theorem fR.UX(h:fR w lo a p s q){x:St}{v:Value}(hr:cj Y.st 71 lo w' (λ_=>False) v (p.steps++[x]))(hg:w.grownBy w' q.vS.ownBlock)(hn:v.ownBlock=q.vS.ownBlock\/v.ownBlock=some w.1.size)(hs:bH q.pb w' qp)(I:G qp q.pb (OZ s {q with vS:=v}) 62):
 fR qp lo a {p with steps:=p.steps++[x]} (s.more w w') {q with vS:=v}:=
 have hd:DK w' (s.more w w') q.pb:=DK.up hg.size _ h.Z7;have ga:=h.box.grown hg (h.rS.bM h.box (by decide));have k1:=h.rE.grown hg (λ_ k=>k.elim) (λb e=>h.rS.type e) (by decide);have k2:=h.rF.grown hg (λ_ k=>k.elim) (λb e=>h.rS.type e) (by decide)
 ⟨(h.fJ.more hg λb e=>⟨h.xS b e,h.dk b (h.xS b e)⟩).OT hs (.inl h.xb) hd,I,k1.only hs id (k1.bM ga (by decide)),hr.only hs id (hr.bM ga (by decide)),k2.only hs id (k2.bM ga (by decide)),.inl h.xb,
  λb e=> .inl (h.xE b e),λb e=>hn.elim (λk=> .inl (h.xS b (k▸e))) λk=> .inr (by have:=hr.lt b e;rw[show(v.ownBlock=some b)=(some w.1.size=some b) by rw[k]] at e;injection e;omega),λb e=> .inl (h.xF b e),
  λb e=>DK.up (ca hs.size.symm) b (e.elim (λe=>DK.up hg.size b (h.dk b e)) λe=>h.fJ.eP e.1 e.2),h.lt⟩
theorem fR.UY(h:fR w lo a p s q){x:Fd}{v:Value}(hr:cj Y.fd 87 lo w' (λ_=>False) v (p.eY++[x]))(hg:w.grownBy w' q.vF.ownBlock)(hn:v.ownBlock=q.vF.ownBlock\/v.ownBlock=some w.1.size)(hs:bH q.pb w' qp)(I:G qp q.pb (OZ s {q with vF:=v}) 62):
 fR qp lo a {p with eY:=p.eY++[x]} (s.more w w') {q with vF:=v}:=
 have hd:DK w' (s.more w w') q.pb:=DK.up hg.size _ h.Z7;have ga:=h.box.grown hg (h.rF.bM h.box (by decide));have k1:=h.rE.grown hg (λ_ k=>k.elim) (λb e=>h.rF.type e) (by decide);have k2:=h.rS.grown hg (λ_ k=>k.elim) (λb e=>h.rF.type e) (by decide)
 ⟨(h.fJ.more hg λb e=>⟨h.xF b e,h.dk b (h.xF b e)⟩).OT hs (.inl h.xb) hd,I,k1.only hs id (k1.bM ga (by decide)),k2.only hs id (k2.bM ga (by decide)),hr.only hs id (hr.bM ga (by decide)),.inl h.xb,
  λb e=> .inl (h.xE b e),λb e=> .inl (h.xS b e),λb e=>hn.elim (λk=> .inl (h.xF b (k▸e))) λk=> .inr (by have:=hr.lt b e;rw[show(v.ownBlock=some b)=(some w.1.size=some b) by rw[k]] at e;injection e;omega),
  λb e=>DK.up (ca hs.size.symm) b (e.elim (λe=>DK.up hg.size b (h.dk b e)) λe=>h.fJ.eP e.1 e.2),h.lt⟩
theorem fR.nQ(h:fR w lo a p s q){o:Option Nat}(hg:w.grownBy w' o)(ho:∀b,o=some b->s.ex b)(hs:bH q.pb w' qp):db s w (s.more w w') qp:=(db.grown hg ho).trans (db.only hs (.inl h.xb))
end
def yP(lo:Nat)(a:Ap)(s:NA)(q:Lr)(w:World)(e:Int)(r:V.Rp)(p':V.qz)(y:Ending)(w':World):Prop:=
 ∃C s' q',y=.returned (.tuple #[.agg C,e])/\tg C r/\fR w' lo a p' s' q'/\db s w s' w'/\q'.pb=q.pb
def V.UZ:V.Rp:=⟨0,0,false,V.mT⟩
theorem fR.Ls{w w':World}{lo b:Nat}{a:Ap}{p:V.qz}{s:NA}{q:Lr}{cs:Array Value}{T:TypeId}(h:fR w lo a p s q)(Q:cM s w w')(D:s.ex b)(I:G w b cs T):G w' b cs T:=Q.bx I (h.dk b D)
theorem WX(lo:Nat)(a:Ap)(p:V.qz)(s:NA)(q:Lr)(k A B:Int)(w:World)(h:fR w lo a p s q)(sM:Cs p.fJ.aX)(AD:∀x,p.fJ.nodes[A.toNat]?=some x->PkP a p.fJ x B)(hl:p.steps.length<=1000000):
 Calls prog 15 #[.pointer q.pb,.agg #[k,A,B]] w λy w'=>yP lo a s q w (V.gU a p.fJ A B).1 V.UZ {p with steps:=if (V.gU a p.fJ A B).1=0 then p.steps++[⟨0,A,B,0,0⟩] else p.steps,fJ:=(V.gU a p.fJ A B).2} y w':=by
 obtain⟨⟨e0,t1⟩,hr⟩:∃r,V.gU a p.fJ A B=r:=⟨_,rfl⟩;rw[hr];dsimp only;replace sM:=U sM;change aK _ at AD hl hr;have HH:=U h;clear h;go_in;go_upto_region 1 with fail
 refine r9 λW1 ba b4 J=>?_;have z1:=b4.lt;have hp:=HH.lS J;have hm:=db.more (s:=s) J;have xa:(s.more w W1).ex w.1.size:=.inr (by omega);have x4:(s.more w W1).ex (w.1.size+1):=.inr (by omega);have rT:=HH.box.lt;have na:w.1.size≠q.pb:=by omega
 have n4:(w.1.size+1)≠q.pb:=by omega
 clear J z1 rT;obtain⟨s1,j8⟩:=cJ (s.more w W1);rw[j8] at hp hm xa x4;clear j8 HH;have CC:∀(W:World)(s':NA)(q':Lr)(p':V.qz)(e:Int),fR W lo a p' s' q'->db s w s' W->q'.pb=q.pb->s'.ex (w.1.size+1)->G W (w.1.size+1) fZ 73->∀ {tmps:Array Value},tmps.getD 4 undef=.pointer (some ⟨(w.1.size+1),0,none⟩)->tmps.getD 5 undef=.int .i64 e->bodyPost prog Tryz.f15 (λy w'=>yP lo a s q w e V.UZ p' y w') .ret ⟨tmps,[]⟩ (cz W (w.1.size+1) 0 fZ.toList):=by
  intro W s' q' p' e hp hm hq D I tmps t4 t5;have Lc:=I.cm fZ rfl;have cW:bH (w.1.size+1) W (cz W (w.1.size+1) 0 fZ.toList):=dQ _ _ _;refine bL (v:=.tuple #[.agg fZ,e]) (iM results15 t4 t5 (Lc.ju 73 _ underlying73 rfl (by kernel_rfl))) rfl ?_;exact⟨fZ,s',q',rfl,AM,hp.only cW D (by rw[hq];exact n4) (hp.rE.bM I (by decide)) (hp.rS.bM I (by decide)) (hp.rF.bM I (by decide)),hm.trans (db.only cW D),hq⟩
 have Dt:=U @CC;clear CC;have Ez:=oT;refine rg 0 λW2 I K=>?_;replace hp:=hp.next I;replace ba:=ba.next I;replace b4:=b4.next I;replace hm:=hm.trans (db.of I);clear I K;have k6:W2.cell? ⟨q.pb,6,none⟩=some (.pointer s1.nb):=aD hp.box 6;have HP:=U hp;have HM:=U hm;have B4:=U b4;have BA:=U ba;clear hp hm b4 ba;refine aG [0] 9 ?_;go_wp2;refine sJ 1 ?_;have O:=ch BA.Z;refine aG [2,3,4,5,6,7] 2 ?_;go_wp2;clear O k6;refine oJ 8 ?_;go_wp2_with fail;refine(WI lo a p.fJ s1 A B W2 HP.fJ sM.Z AD.Z).mono ?_;rintro _ w3 ⟨rfl,hN,Q⟩;rw[hr.Z] at hN;rw[hr.Z];dsimp only at hN⊢;have ba:=HP.Ls Q xa BA.Z;have b4:=HP.Ls Q x4 B4.Z;have hm:=HM.trans (db.kept Q);have hp:=HP.call hN Q;clear hN Q HP HM BA B4;have HP:=U hp;have HM:=U hm;have B4:=U b4;have BA:=U ba;clear hp hm b4 ba;go_wp2;refine⟨λq=>absurd q (by decide),?_⟩;refine aG [9] 0 ?_;go_wp2;refine eJ ?_;by_cases he:e0=0
 case neg=>
  have b0:(e0==0)=false:=by simpa using he
  replace he:=U he;have b4:=B4.Z;go_wp2_with (first |refine wpList_build rfl 73 _ rfl _ _ Ez (by go_simp) ?_|(refine wpList_store_mid rfl 73 (.tmp 4) (.tmp 34) rfl (w.1.size+1) 0 fZ rfl rfl b4.there (by kernel_rfl) jv ?_;rw[aH]));try rw[aO he.Z]
  exact Dt _ s1 q _ e0 HP.Z HM.Z rfl x4 B4.Z rfl rfl
 subst he;go_upto_region 3 with fail
 refine rg 0 λW4 I K=>?_;have hp:=HP.next I;have ba:=BA.next I;have b4:=B4.next I;have hm:=HM.trans (db.of I);clear I K HP HM B4 BA;have k1:W4.cell? ⟨q.pb,1,none⟩=some q.vS:=aD hp.box 1;have HP:=U hp;have HM:=U hm;have B4:=U b4;replace ba:=U ba;clear hp hm b4;refine aG [1] 16 ?_;go_wp2;refine sJ 2 ?_;have O:=ch ba.Z;refine aG [3,4,5,6,7,8,9,10] 7 ?_;go_wp2;clear O k1;refine sJ 0 ?_;refine aG [11] 5 ?_;go_wp2;refine fX ?_;refine Go.Proofs.YtmgahjkopiaglaaGreat.nb λW5 bs I=>?_;have hp:=HP.next I;have b4:=B4.next I;have hm:=HM.trans (db.of I);clear I HP HM B4 ba;have pe:=hp.lt;have rT:=hp.box.lt;have HP:=U hp;have HM:=U hm;have B4:=U b4;clear hp hm b4;refine oN 12 ?_;go_wp2_with (at_builtin;refine dv (r:=Y.st) (y:=⟨0,A,B,0,0⟩) rfl (.tmp 23) (.tmp 29) 34 rfl lo 71 Tryz.I5 underlying34 rfl (by omega) q.vS rfl HP.rS (λ_ k=>k.elim) (by omega) 1 W4.1.size [aP,A,B,aP,aP] rfl bs rfl hl.Z ?_;intro v' w6 Tv DQ xZ QI);first |change aV _ _ _ _ _ _ _ _ _ _|refine⟨λh=>absurd h (by decide),?_⟩
 obtain⟨A7,c7,he7,_,_⟩:=Tv.form;obtain⟨n7,HD⟩:=cJ ((p.steps++[(⟨0,A,B,0,0⟩:St)]).length);rw[HD] at he7;clear HD;subst he7;have ga:=HP.box.grown DQ (HP.rS.bM HP.box (by decide));have b4:=B4.grown DQ (HP.rS.bM B4.Z (by decide));have B4:=U b4;replace Tv:=U Tv;replace DQ:=U DQ;replace QI:=U QI;clear b4 xZ bs;have O:=ch ga;refine aG [13,14,15,16] 0 ?_;go_wp2;refine fX ?_;clear O;refine cd λW7 hW=>?_;refine eN ?_;have cW:bH q.pb w6 W7:=bH.eqv hW ((bH.refl _ _).bd 1 _);have qo:G W7 q.pb (OZ s1 {q with vS:=.slice A7 n7 c7}) 62:=G.eqv hW (ga.bd 1 _);have hp:=HP.UX Tv.Z DQ.Z QI.Z cW qo;have hm:=HM.trans (HP.nQ DQ.Z HP.xS cW);have b4:=B4.only cW n4;clear hW ga cW qo;have B4:=U b4;replace hp:=U hp;replace hm:=U hm;go_wp2_with (first |refine wpList_build rfl 73 _ rfl _ _ Ez (by go_simp) ?_|(refine wpList_store_mid rfl 73 (.tmp 4) (.tmp 34) rfl (w.1.size+1) 0 fZ rfl rfl b4.there (by kernel_rfl) jv ?_;rw[aH]));try rw[aS rfl]
 exact Dt _ _ _ _ 0 hp.Z hm.Z rfl (.inl x4) B4.Z rfl rfl
theorem Tw(lo:Nat)(a:Ap)(p:V.qz)(s:NA)(q:Lr)(k A B:Int)(w:World)(h:fR w lo a p s q)(NK:0<=p.fJ.dp)(sM:nP p.fJ.aX)(AD:∀x,p.fJ.nodes[A.toNat]?=some x->PbP a p.fJ x):
 Calls prog 18 #[.pointer q.pb,.agg #[k,A,B]] w λy w'=>yP lo a s q w (V.ft a p.fJ A).1 V.UZ {p with fJ:=(V.ft a p.fJ A).2} y w':=by
 obtain⟨⟨e0,t1⟩,hr⟩:∃r,V.ft a p.fJ A=r:=⟨_,rfl⟩;rw[hr];dsimp only;change aK _ at NK AD hr;replace sM:=U sM;replace h:=U h;go_in;go_upto_region 1 with fail
 refine r9 λW1 ba b4 J=>?_;have z1:=b4.lt;have hp:=h.lS J;have hm:=db.more (s:=s) J;have xa:(s.more w W1).ex w.1.size:=.inr (by omega);have x4:(s.more w W1).ex (w.1.size+1):=.inr (by omega);have rT:=h.box.lt;have na:w.1.size≠q.pb:=by omega
 have n4:(w.1.size+1)≠q.pb:=by omega
 clear J z1 rT;obtain⟨s1,j8⟩:=cJ (s.more w W1);rw[j8] at hp hm xa x4;clear j8 h;have CC:∀(W:World)(s':NA)(q':Lr)(p':V.qz)(e:Int),fR W lo a p' s' q'->db s w s' W->q'.pb=q.pb->s'.ex (w.1.size+1)->G W (w.1.size+1) fZ 73->∀ {tmps:Array Value},tmps.getD 4 undef=.pointer (some ⟨(w.1.size+1),0,none⟩)->tmps.getD 5 undef=.int .i64 e->bodyPost prog Tryz.f18 (λy w'=>yP lo a s q w e V.UZ p' y w') .ret ⟨tmps,[]⟩ (cz W (w.1.size+1) 0 fZ.toList):=by
  intro W s' q' p' e hp hm hq D I tmps t4 t5;have Lc:=I.cm fZ rfl;have cW:bH (w.1.size+1) W (cz W (w.1.size+1) 0 fZ.toList):=dQ _ _ _;refine bL (v:=.tuple #[.agg fZ,e]) (iM results18 t4 t5 (Lc.ju 73 _ underlying73 rfl (by kernel_rfl))) rfl ?_;exact⟨fZ,s',q',rfl,AM,hp.only cW D (by rw[hq];exact n4) (hp.rE.bM I (by decide)) (hp.rS.bM I (by decide)) (hp.rF.bM I (by decide)),hm.trans (db.only cW D),hq⟩
 have Dt:=U @CC;clear CC;have Ez:=oT;refine rg 0 λW2 I K=>?_;replace hp:=hp.next I;replace ba:=ba.next I;replace b4:=b4.next I;replace hm:=hm.trans (db.of I);clear I K;have k6:W2.cell? ⟨q.pb,6,none⟩=some (.pointer s1.nb):=aD hp.box 6;have HP:=U hp;have HM:=U hm;have B4:=U b4;replace ba:=U ba;clear hp hm b4;refine aG [1] 9 ?_;go_wp2;refine sJ 2 ?_;have O:=ch ba.Z;refine aG [3,4,5,6] 4 ?_;go_wp2;clear O k6;refine sJ 0 ?_;refine oN 7 ?_;go_wp2_with fail;refine(S4 lo a p.fJ s1 A W2 HP.fJ NK.Z sM.Z AD.Z).mono ?_;rintro _ w3 ⟨rfl,hN,Q⟩;rw[hr.Z] at hN;rw[hr.Z];dsimp only at hN⊢;have b4:=HP.Ls Q x4 B4.Z;have hm:=HM.trans (db.kept Q);have hp:=HP.call hN Q;clear hN Q HP HM ba B4;replace hp:=U hp;replace hm:=U hm;have B4:=U b4;clear b4;go_wp2;refine⟨λq=>absurd q (by decide),?_⟩;have b4:=B4.Z;refine aG [8,9] 0 ?_;go_wp2_with (first |refine wpList_build rfl 73 _ rfl _ _ Ez (by go_simp) ?_|(refine wpList_store_mid rfl 73 (.tmp 4) (.tmp 6) rfl (w.1.size+1) 0 fZ rfl rfl b4.there (by kernel_rfl) jv ?_;rw[aH]));refine eJ ?_;go_wp2_with fail;exact Dt _ s1 q _ e0 hp.Z hm.Z rfl x4 B4.Z rfl rfl
end Go.Proofs.YtmgahjkopiaglaaGreat
