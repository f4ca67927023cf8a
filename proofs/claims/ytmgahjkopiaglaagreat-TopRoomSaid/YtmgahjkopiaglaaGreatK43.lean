/- Lemmas, walks and contracts by which the statement is proved. -/
import Derived.Test.YtmgahjkopiaglaaGreatK42
set_option maxRecDepth 100000
set_option maxHeartbeats 16000000
set_option linter.all false
namespace Go.Proofs.YtmgahjkopiaglaaGreat
open Go.RowKit Go.Proofs.Tryz
theorem Tryz.Mt:(prog.info? 69).map (λi=>(i.zero,i.size,i.bytes))=some (some (.agg #[aP,aP,aP]),3,24):=by kernel_rfl
theorem Jc(gA TA:Option Addr)(gk Tk:Nat)(a:Ap)(w:World)(S:Nat->Prop)(hS:∀b,S b->b<w.1.size)(h0:ay Y.msg false w S (.slice gA a.az.length gk) a.az)(F:ay Y.eC false w S (.slice TA a.T.length Tk) a.T):
 Calls prog 13 #[.agg #[a.n,.slice gA a.az.length gk,.slice TA a.T.length Tk,a.bF]] w λy w'=>(∃vA vk,y=.returned (.agg #[a.n,.slice gA a.cut.az.length gk,.slice vA a.cut.T.length vk,a.bF])/\ay Y.eC false w' (EW S w.1.size w') (.slice vA a.cut.T.length vk) a.cut.T)/\aY w w':=by
 have iv:a.az.length<=gk/\gk<=maxLen:=by obtain⟨_,_,e,q1,q2,_⟩:=h0;injection e with _ _ e;subst e;exact⟨q1,q2⟩
 have VT:=F.bounds;change aK _ at hS;clear h0;obtain⟨n40,hn40⟩:=cJ a.cut.az.length;obtain⟨n8,lp⟩:=cJ a.cut.T.length;have aan:(a.az.take 40).length=n40:=hn40;have hq8:((a.T.take 8).map Tb.CF).length=n8:=lp;obtain⟨TT,hTT⟩:=cJ a.cut.T;have hqT:(a.T.take 8).map Tb.CF=TT:=hTT;rw[hn40,lp,hTT];change aK _ at aan hq8 hqT;clear hn40 lp hTT;go_in;go_upto_region 1 with fail
 refine r9 λW1 b1 b2 J=>?_;have B1:=U b1;have B2:=U b2;have HB:=U J;clear b1 b2 J;refine rg 36 λW2 I K=>?_;have b1:=B1.next I;have b2:=B2.next I;have J:=dW HB.Z I;clear I B1 B2 HB;have B2:=U b2;have HB:=U J;clear b2 J;have O:=ch b1;refine aG [0,1] 8 ?_;go_wp2;refine rJ [3,4,6,7] 4 ?_;go_wp2;refine iJ ?_;clear O b1;refine oN 2 ?_;go_wp2_with fail;refine(Rg gA gk a.n a.az W2 iv.1 iv.2).mono ?_;rintro _ w3 ⟨rfl,I⟩;rw[aan.Z];have b2:=B2.next I;have J:=dW HB.Z I;replace K:=K.Gt I;clear I B2 HB;have B2:=U b2;have HB:=U J;clear b2 J;go_wp2;refine⟨λ_=>K,?_⟩;refine oN 5 ?_;go_wp2_with fail;refine(Ri TA Tk a.T w3 S (λb q=>by have:=hS.Z b q;have:=HB.size;omega) (F.aE (dx hS HB))).mono ?_;rintro _ w4 ⟨⟨v,rfl,hv⟩,I⟩;obtain⟨vA,vk,rfl,_⟩:=id hv;rw[hq8.Z] at hv⊢;rw[hqT.Z] at hv;have l3:=B2.lt;have b2:=B2.next I;have z34:=HB.size;have J:=dW HB.Z I;replace K:=K.Gt I;clear I B2 HB;replace hv:=U hv;replace b2:=U b2;replace J:=U J;go_wp2;refine⟨λ_=>K,?_⟩;have O:=ch b2.Z;refine aG [8,9] 0 ?_;go_wp2;refine fX ?_;clear O;refine cd λW9 hW=>?_;refine eN ?_;have GB:G W9 (w.1.size+1) #[a.n,.slice gA n40 gk,.slice vA n8 vk,a.bF] 27:=G.eqv hW ((((b2.cC 0 _).cC 1 _).cC 2 _).cC 3 _);have cW:bH (w.1.size+1) w4 W9:=bH.eqv hW (((((bH.refl _ _).bd 0 _).bd 1 _).bd 2 _).bd 3 _);clear hW;go_wp2;refine bL (v:=.agg #[a.n,.slice gA n40 gk,.slice vA n8 vk,a.bF]) ((iL results13 rfl).trans (GB.ju 27 _ underlying27 rfl (by kernel_rfl))) rfl ?_;refine⟨⟨vA,vk,rfl,?_⟩,J.trans ⟨cW.os,cW.tape,cW.output,ca cW.size.symm,λk Q=>cW.block k (by omega)⟩⟩;have hz:=cW.size;exact(hv.aE λb q=>cW.block b (q.elim (λq=>by have:=hS.Z b q;omega) λq=>by have:=q.1;omega)).aF λb q=>q.imp id λq=>⟨by have:=q.1;omega,by have:=q.2;omega⟩
theorem Oq(gA TA cA:Option Addr)(gk Tk ck:Nat)(a:Ap)(b:Nat)(cI:List (Int×Int×Int))(w:World)(S:Nat->Prop)(hS:∀b,S b->b<w.1.size)(h0:ay Y.msg false w S (.slice gA a.az.length gk) a.az)(F:ay Y.eC false w S (.slice TA a.T.length Tk) a.T)(R:ay Y.aQ false w S (.slice cA cI.length ck) cI):
 Calls prog 4 #[.agg #[a.n,.slice gA a.az.length gk,.slice TA a.T.length Tk,a.bF,.float .f64 b,.slice cA cI.length ck]] w λy w'=>(∃vA vk rA rk,y=.returned (.agg #[a.n,.slice gA a.cut.az.length gk,.slice vA a.cut.T.length vk,a.bF,.float .f64 b,.slice rA (cI.take 60).length rk])/\ay Y.eC false w' (EW S w.1.size w') (.slice vA a.cut.T.length vk) a.cut.T/\ay Y.aQ false w' (EW S w.1.size w') (.slice rA (cI.take 60).length rk) (cI.take 60))/\aY w w':=by
 have XK:=h0.bounds;have VT:=F.bounds;have XJ:=R.bounds;obtain⟨m,lu⟩:=cJ ((cI.take 60).length);have hm4:(min ((cI.length:Nat):Int) 60).toNat=m:=by rw[dL] at lu;omega
 have Bw:(0:Int)<=min ((cI.length:Nat):Int) 60:=by omega
 have hm5:min ((cI.length:Nat):Int) 60<=(ck:Int):=by omega
 have h2t:=R.take 60;rw[lu] at h2t⊢;have HM:aK (m<=60/\(cI.take 60).length=m):=U ⟨by rw[dL] at lu;omega,lu⟩;clear lu R;replace h2t:=U h2t;change aK _ at hS;obtain⟨n40,hn40⟩:=cJ a.cut.az.length;obtain⟨n8,lp⟩:=cJ a.cut.T.length;obtain⟨TT,hTT⟩:=cJ a.cut.T;rw[hn40,lp,hTT];change aK _ at hn40 lp hTT;go_in;go_upto_region 1 with fail
 refine r9 λW1 b1 b2 J=>?_;have z1:=b2.lt;have B1:=U b1;have B2:=U b2;replace J:=U J;clear b1 b2;refine rg 8196 λW2 I K=>?_;have Ds:=U (dW J.Z I);have b1:=B1.next I;have b2:=B2.next I;have zW2:=I.size;clear I B1 B2;have B2:=U b2;clear b2;have hV:=bI W2.1.size W2;have Xh:=h0.aE (dx hS.Z Ds);have nJ:=F.aE (dx hS.Z Ds);have pT:=h2t.aE (dx hS.Z Ds);replace Xh:=U Xh;replace nJ:=U nJ;replace pT:=U pT;have O:=ch b1;refine aG [0,1] 14 ?_;go_wp2;refine rJ [3,4,6,7,8,9,10] 7 ?_;go_wp2;refine iJ ?_;refine tS 11 ?_;refine rD [12] 5 ?_;go_wp2;refine iJ ?_;clear O;refine tW 2 5 ?_ ?_;focus
  go_wp2_with fail;refine(Jc gA TA gk Tk a W2 S (λb q=>by have:=hS.Z b q;have:=hV.size;omega) (Xh.aE λb q=>hV.block b (by have:=hS.Z b q;omega)) (nJ.aE λb q=>hV.block b (by have:=hS.Z b q;omega))).mono ?_;rintro _ w3 ⟨⟨vA,vk,rfl,hv⟩,I⟩;rw[hn40.Z,lp.Z];rw[lp.Z,hTT.Z] at hv;have zw3:=I.size;have akp:=hV.size;replace hV:=dW hV I;have HV:=U hv;clear hv;clear I;go_wp2;refine⟨λ_=>Ext.below hV bE,?_⟩;refine aG [5] 3 ?_;go_wp2;refine fX ?_;refine Go.Proofs.YtmgahjkopiaglaaGreat.nb λW4 be I=>?_;have ct:=cj.boxed Y.aQ 69 W2.1.size S be (by have:=hV.size;omega) (λb q=>by have:=hS.Z b q;omega);have zW4:=I.size;have lW4:=be.lt;have akr:=hV.size;replace hV:=dW hV I;replace ct:=U ct;have hv:=HV.aE λb q=>I.block b (q.elim (λq=>by have:=hS.Z b q;omega) λq=>by have:=q.2;omega);have HV:=U hv;clear hv;clear be I;refine oN 13 ?_;go_wp2_with (at_builtin;refine j5 (r:=Y.aQ) rfl (.tmp 8) (.tmp 15) 29 rfl W2.1.size 69 Tryz.Mt underlying29 rfl (by omega) (.slice w3.1.size 0 0) (.slice cA m ck) rfl ct.Z (λb q=>by have:=hS.Z b q;omega) (by have:=hV.size;omega) rfl (pT.aE λb q=>hV.block b (by have:=hS.Z b q;omega)) (by have:=HM.Z;simp;omega) ?_;intro vW w5 im lE j7 nO);refine⟨λ_=>Ext.below (hV.trans j7) bE,?_⟩;have zw5:=lE.size;have zV:=hV.size;replace hV:=hV.trans j7;obtain⟨rA,rk,nG,_,_⟩:=im.form;rw[gh,HM.Z.2] at nG;subst nG;rw[gh] at im;replace im:=U im;have hv:=HV.aE λb q=>lE.block b (q.elim (λq=>by have:=hS.Z b q;omega) λq=>by have:=q.1;have:=q.2;omega) λe=>by simp[Value.ownBlock] at e;exact q.elim (λq=>by have:=hS.Z b q;omega) λq=>by have:=q.1;have:=q.2;omega
  replace hv:=U hv;clear lE j7 nO;have b2:G w5 (w.1.size+1) #[aP,(),(),false,.float .f64 0,()] 31:=(hV.block _ B2.lt).trans B2.Z;refine aG [14,15] 0 ?_;go_wp2_with (refine wpList_store_mid rfl 31 (.tmp 2) (.tmp 17) rfl (w.1.size+1) 0 #[a.n,.slice gA n40 gk,.slice vA n8 vk,a.bF,.float .f64 b,.slice rA m rk] rfl rfl (b2.cR rfl) (by kernel_rfl) (by simp[Value.oneCell']) ?_;rw[aH]);refine fX ?_;refine cd λW6 hW=>?_;refine eN ?_;have GB:G W6 (w.1.size+1) #[a.n,.slice gA n40 gk,.slice vA n8 vk,a.bF,.float .f64 b,.slice rA m rk] 31:=G.eqv hW (b2.cm _ rfl);have cW:bH (w.1.size+1) w5 W6:=bH.eqv hW (dQ _ _ _);clear hW;have hz:=cW.size;have zV9:=hV.size;have hBz:aY w W6:=(Ds.trans (hV.mono (by omega))).trans ⟨cW.os,cW.tape,cW.output,ca cW.size.symm,λk Q=>cW.block k (by omega)⟩;have hvz:ay Y.eC false W6 (EW S w.1.size W6) (.slice vA n8 vk) TT:=(hv.aE λb q=>cW.block b (q.elim (λq=>by have:=hS.Z b q;omega) λq=>by have:=q.1;omega)).aF λb q=>q.imp id λq=>⟨by have:=q.1;omega,by have:=q.2;omega⟩;have hrz:ay Y.aQ false W6 (EW S w.1.size W6) (.slice rA m rk) (cI.take 60):=((im.on (S':=EW S W2.1.size w5) (λb q=> .inl q) λb e=> .inr (im.lt b e)).aE λb q=>cW.block b (q.elim (λq=>by have:=hS.Z b q;omega) λq=>by have:=q.1;omega)).aF λb q=>q.imp id λq=>⟨by omega,by omega⟩
 rotate_left;focus
  go_wp2;refine⟨λq=>absurd q (by decide),?_⟩;refine Go.Proofs.YtmgahjkopiaglaaGreat.nb λW7 be I=>?_;have ct:=cj.boxed Y.aQ 69 W2.1.size S be (by have:=hV.size;omega) (λb q=>by have:=hS.Z b q;omega);have zW7:=I.size;have lW7:=be.lt;have akt:=hV.size;replace hV:=dW hV I;have P8:=U ct;clear ct;clear be I;refine oN 2 ?_;go_wp2_with fail;refine(Jc gA TA gk Tk a W7 S (λb q=>by have:=hS.Z b q;have:=hV.size;omega) (Xh.aE λb q=>hV.block b (by have:=hS.Z b q;omega)) (nJ.aE λb q=>hV.block b (by have:=hS.Z b q;omega))).mono ?_;rintro _ w8 ⟨⟨vA,vk,rfl,hv⟩,I⟩;rw[hn40.Z,lp.Z];rw[lp.Z,hTT.Z] at hv;have zw8:=I.size;have aku:=hV.size;replace hV:=dW hV I;have HV:=U hv;clear hv;have ct:=P8.next I λb q=>by have:=hS.Z b q;omega
  replace ct:=U ct;clear I;go_wp2;refine⟨λ_=>Ext.below hV bE,?_⟩;refine oN 13 ?_;go_wp2_with (at_builtin;refine j5 (r:=Y.aQ) rfl (.tmp 8) (.tmp 15) 29 rfl W2.1.size 69 Tryz.Mt underlying29 rfl (by omega) (.slice W2.1.size 0 0) (.slice cA m ck) rfl ct.Z (λb q=>by have:=hS.Z b q;omega) (by have:=hV.size;omega) rfl (pT.aE λb q=>hV.block b (by have:=hS.Z b q;omega)) (by have:=HM.Z;simp;omega) ?_;intro vW w9 im lE j7 nO);refine⟨λ_=>Ext.below (hV.trans j7) bE,?_⟩;have zw9:=lE.size;have zV:=hV.size;replace hV:=hV.trans j7;obtain⟨rA,rk,nG,_,_⟩:=im.form;rw[gh,HM.Z.2] at nG;subst nG;rw[gh] at im;replace im:=U im;have hv:=HV.aE λb q=>lE.block b (q.elim (λq=>by have:=hS.Z b q;omega) λq=>by have:=q.1;have:=q.2;omega) λe=>by simp[Value.ownBlock] at e;exact q.elim (λq=>by have:=hS.Z b q;omega) λq=>by have:=q.1;have:=q.2;omega
  replace hv:=U hv;clear lE j7 nO;have b2:G w9 (w.1.size+1) #[aP,(),(),false,.float .f64 0,()] 31:=(hV.block _ B2.lt).trans B2.Z;refine aG [14,15] 0 ?_;go_wp2_with (refine wpList_store_mid rfl 31 (.tmp 2) (.tmp 17) rfl (w.1.size+1) 0 #[a.n,.slice gA n40 gk,.slice vA n8 vk,a.bF,.float .f64 b,.slice rA m rk] rfl rfl (b2.cR rfl) (by kernel_rfl) (by simp[Value.oneCell']) ?_;rw[aH]);refine fX ?_;refine cd λuj hW=>?_;refine eN ?_;have GB:G uj (w.1.size+1) #[a.n,.slice gA n40 gk,.slice vA n8 vk,a.bF,.float .f64 b,.slice rA m rk] 31:=G.eqv hW (b2.cm _ rfl);have cW:bH (w.1.size+1) w9 uj:=bH.eqv hW (dQ _ _ _);clear hW;have hz:=cW.size;have zV9:=hV.size;have hBz:aY w uj:=(Ds.trans (hV.mono (by omega))).trans ⟨cW.os,cW.tape,cW.output,ca cW.size.symm,λk Q=>cW.block k (by omega)⟩;have hvz:ay Y.eC false uj (EW S w.1.size uj) (.slice vA n8 vk) TT:=(hv.aE λb q=>cW.block b (q.elim (λq=>by have:=hS.Z b q;omega) λq=>by have:=q.1;omega)).aF λb q=>q.imp id λq=>⟨by have:=q.1;omega,by have:=q.2;omega⟩;have hrz:ay Y.aQ false uj (EW S w.1.size uj) (.slice rA m rk) (cI.take 60):=((im.on (S':=EW S W2.1.size w9) (λb q=> .inl q) λb e=> .inr (im.lt b e)).aE λb q=>cW.block b (q.elim (λq=>by have:=hS.Z b q;omega) λq=>by have:=q.1;omega)).aF λb q=>q.imp id λq=>⟨by omega,by omega⟩
 all_goals
  go_wp2;refine bL (v:=.agg #[a.n,.slice gA n40 gk,.slice vA n8 vk,a.bF,.float .f64 b,.slice rA m rk]) ((iL results4 rfl).trans (GB.ju 31 _ underlying31 rfl (by kernel_rfl))) rfl ?_;exact⟨⟨vA,vk,rA,rk,rfl,hvz,hrz⟩,hBz⟩
def Gr.qx(a:Nat):Nat->List (Int×Int)
 |0=>[]
 |b+1=>Gr.qx a b++if a=b then[] else[((a:Int),(b:Int))]
def Gr.tw(N:Nat):Nat->List (Int×Int)
 |0=>[]
 |a+1=>Gr.tw N a++Gr.qx a N
theorem yg(a:Nat):∀b,(Gr.qx a b).length<=b
 |0=>bE
 |b+1=>by have:=yg a b;unfold Gr.qx;rw[dh];split<;>simp<;>omega
theorem CG(N:Nat):∀a,(Gr.tw N a).length<=a * N
 |0=>by simp[Gr.tw]
 |a+1=>by have:=CG N a;have:=yg a N;unfold Gr.tw;rw[dh,nV];omega
theorem Xi(w:World):
 Calls prog 25 #[.int .i64 2] w λy w'=>(∃A k,y=.returned (.agg #[.int .i64 2,.slice A 2 k])/\cj Y.msg 129 w.1.size w' (λ_=>False) (.slice A 2 k) [(0,1),(1,0)])/\aY w w':=by
 go_in;go_upto_region 2 with fail
 refine bK λW1 hW=>?_;have b2:G W1 w.1.size #[aP,()] 24:=G.eqv hW ((G.kZ _ _ (by simp)).alloc _);have b3:G W1 (w.1.size+1) #[.int .i64 2,()] 24:=G.eqv hW (G.kZ _ _ (by simp));have J:aY w W1:=Below.eqv hW ((cT.alloc (by first |(simp;done)|(simp;omega)) _).alloc (by first |(simp;done)|(simp;omega)) _);clear hW;have z1:w.1.size+2<=W1.1.size:=by have:=b3.lt;omega
 obtain⟨lo,pe⟩:=cJ W1.1.size;have B2:=U b2;have ZO:=b2.lt;replace J:=U J;clear b2;have O:=ch b3;go_wp2;clear O;go_loopg [4,5,12] 2 (λq _ _ i wr=>∃(j:Nat)(gL:Option Addr)(n kL:Nat),i=.int .i64 (j:Int)/\j<=2/\q=2-j/\aK ((Gr.tw 2 j).length=n)/\G wr (w.1.size+1) #[.int .i64 2,.slice gL n kL] 24/\cj Y.msg 129 lo wr (λ_=>False) (.slice gL n kL) (Gr.tw 2 j)/\W1.grownBy wr (some (w.1.size+1)))
 case atStart=>exact⟨0,none,0,0,rfl,by omega,rfl,U rfl,b3,cj.nil _ _ _ _ _,ka _ _⟩
 case round=>
  clear b3;obtain⟨j,gL,n,kL,rfl,hj,Q,hn,b3,hR,hG⟩:=hrel;have Hk:=U Q;clear Q;have sG:=hG.size;by_cases bY:j<2
  case neg=>
   obtain rfl:j=2:=by omega
   obtain rfl:n=2:=by rw[<-hn.Z];rfl
   have b2:G wr w.1.size #[aP,()] 24:=(hG.block _ ZO (λe=>by injection e;omega)).trans B2.Z;obtain⟨kc,kf,kl⟩:=b3.open_;obtain⟨qc,qf,ql⟩:=b2.open_;replace hR:=U hR;replace hG:=U hG;go_wp2;clear kc kf kl;refine bL (v:=.agg #[.int .i64 2,.slice gL 2 kL]) (by simp[results,results25,go_sem,qc,ql]) rfl ?_;have h5:=J.grown hG.Z (by omega) (λk e=>by injection e;omega);refine⟨⟨gL,kL,rfl,(hR.aE λb q=>q.elim (λq=>q.elim) λe=>?_).lower (by omega)⟩,(h5.setCell bE _).setCell bE _⟩;have qy:=(hR.lt b e).1;exact(dF _ _ _ _ (by simp;omega)).trans (dF _ _ _ _ (by simp;omega))
  obtain⟨w0,rfl⟩:∃W,W=wr:=⟨_,rfl⟩;have dj:decide ((j:Int)<2)=true:=by simp;omega
  replace hG:=U hG;have O:=ch b3;go_wp2;clear O;go_loopg [5,17] 2 (λq _ i wr=>∃(b:Nat)(gL:Option Addr)(n kL:Nat),i=.int .i64 (b:Int)/\b<=2/\q=2-b/\aK ((Gr.tw 2 j++Gr.qx j b).length=n)/\G wr (w.1.size+1) #[.int .i64 2,.slice gL n kL] 24/\cj Y.msg 129 lo wr (λ_=>False) (.slice gL n kL) (Gr.tw 2 j++Gr.qx j b)/\W1.grownBy wr (some (w.1.size+1)))
  case atStart=>exact⟨0,gL,n,kL,rfl,by omega,rfl,U (by rw[dh,hn.Z];rfl),b3,by rw[show Gr.qx j 0=[] from rfl,List.append_nil];exact hR,hG.Z⟩
  case round=>
   clear b3 hR hn gL n kL;obtain⟨b,gL,n,kL,rfl,dO,Q,hn,b3,hR,uG⟩:=hrel;change aK _ at Q;have sG0:=uG.size;by_cases rY:b<2
   case neg=>
    obtain rfl:b=2:=by omega
    replace hR:=U hR;replace b3:=U b3;replace uG:=U uG;go_wp2;go_roundg (2-(j+1))
    case rel=>
     exact⟨j+1,gL,n,kL,by simp,by omega,rfl,U hn.Z,b3.Z,hR.Z,uG.Z⟩
    case measure=>have:=Hk.Z;omega
   have Hj:n<=4:=by rw[<-hn.Z,dh];have:=CG 2 j;have:=yg j b;omega
   by_cases Ui:j=b
   case pos=>
    have fz:((j:Int) !=(b:Int))=false:=by simp[Ui]
    replace hR:=U hR;replace b3:=U b3;replace uG:=U uG;replace Ui:=U Ui;go_wp2;go_roundg (2-(b+1))
    case rel=>
     have e:Gr.qx j (b+1)=Gr.qx j b:=by show Gr.qx j b++_=_;rw[aS Ui.Z,List.append_nil]
     exact⟨b+1,gL,n,kL,by simp,by omega,rfl,by rw[e];exact hn,b3.Z,by rw[e];exact hR.Z,uG.Z⟩
    case measure=>have:=Q.Z;omega
   have fz:((j:Int) !=(b:Int))=true:=by simp;omega
   replace hR:=U hR;have B3:=U b3;replace uG:=U uG;replace Ui:=U Ui;replace hn:=U hn;obtain⟨kc,kf,kl⟩:=b3.open_;go_upto_region 9 with fail
   go_upto_region 10 with(at_builtin;refine dv (r:=Y.msg) (y:=((j:Int),(b:Int))) rfl (.tmp 24) (.tmp 28) 22 rfl lo 129 Tryz.Ew underlying22 rfl (by omega) (.slice gL n kL) rfl (hR.next (cT.alloc bE _) λ_ q=>q.elim) (λ_ q=>q.elim) (by simp;omega) 1 wr.1.size [(j:Int),(b:Int)] rfl (G.new _ _ _) rfl (by have:=hn.Z.Z;omega) ?_;intro v9 w9 im lE j7 nO;obtain⟨A9,k9,nG,_,_⟩:=im.form;rw[dh,hn.Z.Z,j'] at nG;subst nG;have ee:aY wr (wr.alloc (.cells #[(j:Int),(b:Int)] 129)):=cT.alloc bE _;have I0:=(B3.next ee).grown lE (hR.bM B3.Z (by decide));have Js:=jZ (aN uG.Z (aT ee)) lE (λk e=>by have:=(hR.lt k e).1;omega);have AJ:=U im;have X7:=U Js;clear kc kf kl lE j7 nO im Js ee b3;obtain⟨kc,kf,kl⟩:=I0.open_)
   clear kc kf kl;refine bK λW3 hW=>?_;have b33:G W3 (w.1.size+1) #[.int .i64 2,.slice A9 (n+1) k9] 24:=G.eqv hW (I0.cC 1 _);have cW:bH (w.1.size+1) w9 W3:=bH.eqv hW ((bH.refl _ _).bd 1 _);have hG3:W1.grownBy W3 (some (w.1.size+1)):=hW▸aN X7.Z (cU 1 _);have j1:=AJ.only cW id (λe=>by have:=(AJ.lt _ e).1;omega);clear hW cW I0;go_wp2;go_roundg (2-(b+1))
   case rel=>
    have e:Gr.qx j (b+1)=Gr.qx j b++[((j:Int),(b:Int))]:=by show Gr.qx j b++_=_;rw[aO Ui.Z]
    refine⟨b+1,A9,n+1,k9,by simp,by omega,rfl,U ?_,b33,?_,hG3⟩
    ·rw[e,<-qH,dh,hn.Z.Z];rfl
    ·rw[e,<-qH];exact j1
   case measure=>have:=Q.Z;omega
def fxN:iD:=⟨0,[⟨0,[],[],[]⟩]⟩
def X9:Ap:=⟨2,[(0,1),(1,0)],[fxN,fxN],true⟩
def Xj:List (Int×Int×Int):=[(2,0,0),(1,0,0),(1,1,0),(1,1,0),(1,0,0),(1,1,0)]
theorem Rj:V.iH X9 4607182418800017408 Xj=0:=by kernel_rfl
def fxP:V.qz:=V.kW X9 (Rc.iz 4607182418800017408) Xj
theorem Gc:fxP.jB=[0,0,0,0,0,0]/\fxP.steps=[]/\fxP.eY.map (λf=>(f.aC,f.gJ))=[(1,true)]:=by
 refine⟨?_,?_,?_⟩
 ·kernel_rfl
 ·kernel_rfl
 ·kernel_rfl
structure FI(W:World)(h:Nat)(m:Nat)(y:World)(x8 lJ o6 x2 lU uH:Value):Prop where
 b0:dw m 0 (∃A k,x8=.agg #[.int .i64 2,.slice A 2 k]/\cj Y.msg 129 W.1.size y (λ_=>False) (.slice A 2 k) [(0,1),(1,0)])
 b3:dw m 3 (∃ar,lJ=.slice (some ⟨ar,0,none⟩) 2 2/\G y ar ([aP,.slice h 1 1,aP,.slice h 1 1]:List Value).toArray 84/\W.1.size<=ar)
 GS:dw m 11 (∃ar,o6=.slice (some ⟨ar,0,none⟩) 6 6/\G y ar ([.int .i64 2,aP,aP,.int .i64 1,aP,aP,.int .i64 1,.int .i64 1,aP,.int .i64 1,.int .i64 1,aP,.int .i64 1,aP,aP,.int .i64 1,.int .i64 1,aP]:List Value).toArray 69/\W.1.size<=ar)
 yS:dw m 13 (∃ar,x2=.pointer (some ⟨ar,0,none⟩)/\G y ar #[aP,(),(),false,.float .f64 0,()] 31/\W.1.size<=ar)
 b4:dw m 4 (∃A k ar,(cj Y.msg 129 W.1.size y (λ_=>False) (.slice A 2 k) [(0,1),(1,0)])/\(G y ar ([aP,.slice h 1 1,aP,.slice h 1 1]:List Value).toArray 84/\W.1.size<=ar)/\lU=.agg #[.int .i64 2,.slice A 2 k,.slice (some ⟨ar,0,none⟩) 2 2,true])
 r8:dw m 12 (∃A k ar C,(cj Y.msg 129 W.1.size y (λ_=>False) (.slice A 2 k) [(0,1),(1,0)])/\(G y ar ([aP,.slice h 1 1,aP,.slice h 1 1]:List Value).toArray 84/\W.1.size<=ar)/\(G y C ([.int .i64 2,aP,aP,.int .i64 1,aP,aP,.int .i64 1,.int .i64 1,aP,.int .i64 1,.int .i64 1,aP,.int .i64 1,aP,aP,.int .i64 1,.int .i64 1,aP]:List Value).toArray 69/\W.1.size<=C)/\uH=.agg #[.int .i64 2,.slice A 2 k,.slice (some ⟨ar,0,none⟩) 2 2,true,.float .f64 4607182418800017408,.slice (some ⟨C,0,none⟩) 6 6])
 g:Below W.1.size W y
section
variable{W y y':World}{h m:Nat}{x8 lJ o6 x2 lU uH:Value}
theorem FI.start(F:m.testBit 0=false)(R:m.testBit 3=false)(h3:m.testBit 11=false)(h4:m.testBit 13=false)(h5:m.testBit 4=false)(h6:m.testBit 12=false):FI W h m W x8 lJ o6 x2 lU uH:=
 ⟨dw.none F,dw.none R,dw.none h3,dw.none h4,dw.none h5,dw.none h6,cT⟩
theorem FI.next(ar:FI W h m y x8 lJ o6 x2 lU uH)(I:Below y.1.size y y'):FI W h m y' x8 lJ o6 x2 lU uH:=
 ⟨λq=>(ar.b0 q).elim λA e=>e.elim λk e=>⟨A,k,e.1,e.2.next I λ_ q=>q.elim⟩,λq=>(ar.b3 q).elim λg e=>⟨g,e.1,e.2.1.next I,e.2.2⟩,λq=>(ar.GS q).elim λg e=>⟨g,e.1,e.2.1.next I,e.2.2⟩,λq=>(ar.yS q).elim λg e=>⟨g,e.1,e.2.1.next I,e.2.2⟩,λq=>by obtain⟨A,k,g,e1,e2,e3⟩:=ar.b4 q;exact⟨A,k,g,e1.next I λ_ q=>q.elim,⟨e2.1.next I,e2.2⟩,e3⟩,λq=>by obtain⟨A,k,g,C,e1,e2,e3,e4⟩:=ar.r8 q;exact⟨A,k,g,C,e1.next I λ_ q=>q.elim,⟨e2.1.next I,e2.2⟩,⟨e3.1.next I,e3.2⟩,e4⟩,dW ar.g I⟩
instance:Nx y y' (FI W h m y x8 lJ o6 x2 lU uH) (FI W h m y' x8 lJ o6 x2 lU uH):=⟨λq p=>p.next q⟩
theorem FI.s0{A:Option Addr}{k:Nat}(ar:FI W h m y x8 lJ o6 x2 lU uH)(I:Below y.1.size y y')(hs:cj Y.msg 129 y.1.size y' (λ_=>False) (.slice A 2 k) [(0,1),(1,0)]):FI W h (m|||2^0) y' (.agg #[.int .i64 2,.slice A 2 k]) lJ o6 x2 lU uH:=
 have aw:=ar.next I
 ⟨dw.now ⟨A,k,rfl,hs.lower ar.g.size⟩,aw.b3.other (by decide) id,aw.GS.other (by decide) id,aw.yS.other (by decide) id,aw.b4.other (by decide) id,aw.r8.other (by decide) id,aw.g⟩
theorem FI.s3(ar:FI W h m y x8 lJ o6 x2 lU uH):FI W h (m|||2^3) (y.alloc (.cells ([aP,.slice h 1 1,aP,.slice h 1 1]:List Value).toArray 84)) x8 (.slice y.1.size 2 2) o6 x2 lU uH:=
 have aw:=ar.next ((bI y.1.size y).alloc bE (.cells ([aP,.slice h 1 1,aP,.slice h 1 1]:List Value).toArray 84))
 ⟨aw.b0.other (by decide) id,dw.now ⟨_,rfl,G.new _ _ _,ar.g.size⟩,aw.GS.other (by decide) id,aw.yS.other (by decide) id,aw.b4.other (by decide) id,aw.r8.other (by decide) id,aw.g⟩
theorem FI.ZZ(ar:FI W h m y x8 lJ o6 x2 lU uH):FI W h (m|||2^11) (y.alloc (.cells ([.int .i64 2,aP,aP,.int .i64 1,aP,aP,.int .i64 1,.int .i64 1,aP,.int .i64 1,.int .i64 1,aP,.int .i64 1,aP,aP,.int .i64 1,.int .i64 1,aP]:List Value).toArray 69)) x8 lJ (.slice y.1.size 6 6) x2 lU uH:=
 have aw:=ar.next ((bI y.1.size y).alloc bE (.cells ([.int .i64 2,aP,aP,.int .i64 1,aP,aP,.int .i64 1,.int .i64 1,aP,.int .i64 1,.int .i64 1,aP,.int .i64 1,aP,aP,.int .i64 1,.int .i64 1,aP]:List Value).toArray 69))
 ⟨aw.b0.other (by decide) id,aw.b3.other (by decide) id,dw.now ⟨_,rfl,G.new _ _ _,ar.g.size⟩,aw.yS.other (by decide) id,aw.b4.other (by decide) id,aw.r8.other (by decide) id,aw.g⟩
theorem FI.s13(ar:FI W h m y x8 lJ o6 x2 lU uH):FI W h (m|||2^13) (y.alloc (.cells #[aP,(),(),false,.float .f64 0,()] 31)) x8 lJ o6 (.pointer y.1.size) lU uH:=
 have aw:=ar.next ((bI y.1.size y).alloc bE (.cells #[aP,(),(),false,.float .f64 0,()] 31))
 ⟨aw.b0.other (by decide) id,aw.b3.other (by decide) id,aw.GS.other (by decide) id,dw.now ⟨_,rfl,G.new _ _ _,ar.g.size⟩,aw.b4.other (by decide) id,aw.r8.other (by decide) id,aw.g⟩
theorem FI.s4{A:Option Addr}{k ar:Nat}(aw:FI W h m y x8 lJ o6 x2 lU uH)(e1:cj Y.msg 129 W.1.size y (λ_=>False) (.slice A 2 k) [(0,1),(1,0)])(e2:G y ar ([aP,.slice h 1 1,aP,.slice h 1 1]:List Value).toArray 84/\W.1.size<=ar):FI W h (m|||2^4) y x8 lJ o6 x2 (.agg #[.int .i64 2,.slice A 2 k,.slice ar 2 2,true]) uH:=
 ⟨aw.b0.other (by decide) id,aw.b3.other (by decide) id,aw.GS.other (by decide) id,aw.yS.other (by decide) id,dw.now ⟨A,k,ar,e1,e2,rfl⟩,aw.r8.other (by decide) id,aw.g⟩
theorem FI.Zg{A:Option Addr}{k ar C:Nat}(aw:FI W h m y x8 lJ o6 x2 lU uH)(e1:cj Y.msg 129 W.1.size y (λ_=>False) (.slice A 2 k) [(0,1),(1,0)])(e2:G y ar ([aP,.slice h 1 1,aP,.slice h 1 1]:List Value).toArray 84/\W.1.size<=ar)(e3:G y C ([.int .i64 2,aP,aP,.int .i64 1,aP,aP,.int .i64 1,.int .i64 1,aP,.int .i64 1,.int .i64 1,aP,.int .i64 1,aP,aP,.int .i64 1,.int .i64 1,aP]:List Value).toArray 69/\W.1.size<=C):FI W h (m|||2^12) y x8 lJ o6 x2 lU (.agg #[.int .i64 2,.slice A 2 k,.slice ar 2 2,true,.float .f64 4607182418800017408,.slice C 6 6]):=
 ⟨aw.b0.other (by decide) id,aw.b3.other (by decide) id,aw.GS.other (by decide) id,aw.yS.other (by decide) id,aw.b4.other (by decide) id,dw.now ⟨A,k,ar,C,e1,e2,e3,rfl⟩,aw.g⟩
end
theorem TH{fr:Bool}{w:World}{S:Nat->Prop}:Y.aQ.all fr w S [.int .i64 2,aP,aP,.int .i64 1,aP,aP,.int .i64 1,.int .i64 1,aP,.int .i64 1,.int .i64 1,aP,.int .i64 1,aP,aP,.int .i64 1,.int .i64 1,aP] Xj:=
 ⟨[.int .i64 2,aP,aP],_,rfl,rfl,⟨[.int .i64 1,aP,aP],_,rfl,rfl,⟨[.int .i64 1,.int .i64 1,aP],_,rfl,rfl,⟨[.int .i64 1,.int .i64 1,aP],_,rfl,rfl,⟨[.int .i64 1,aP,aP],_,rfl,rfl,⟨[.int .i64 1,.int .i64 1,aP],_,rfl,rfl,rfl⟩⟩⟩⟩⟩⟩
theorem Mu{w:World}{S:Nat->Prop}{h:Nat}(b:G w h #[aP,(),(),()] 81)(hS:S h):Y.eC.is false w S [aP,.slice h 1 1] fxN:=
 ⟨_,rfl,ay.wG (cells:=[.int .i64 0,.slice none 0 0,.slice none 0 0,.slice none 0 0]) b ⟨_,[],rfl,⟨_,_,_,rfl,ay.none_,ay.none_,ay.none_⟩,rfl⟩ hS rfl (by decide) (by decide)⟩
theorem Rk{w:World}{S:Nat->Prop}{h:Nat}(b:G w h #[aP,(),(),()] 81)(hS:S h):Y.eC.all false w S [aP,.slice h 1 1,aP,.slice h 1 1] [fxN,fxN]:=
 ⟨[aP,.slice h 1 1],_,rfl,Mu b hS,[aP,.slice h 1 1],[],rfl,Mu b hS,rfl⟩
theorem TI:∃k,fxP.eY=[⟨k,1,true⟩]:=by
 have h:=Gc.2.2
 match hf:fxP.eY with
 |[]=>rw[hf] at h;cases h
 |⟨k,e,o⟩::[]=>rw[hf] at h;injection h with h _;injection h with F R;exact⟨k,by rw[show e=1 from F,show o=true from R]⟩
 |_::_::_=>rw[hf] at h;injection h with _ h;cases h
theorem dm.fd_{fr:Bool}{w:World}{S:Nat->Prop}{k:Nat}{A:Option Addr}{xs:List Fd}{x:Fd}(h:dm Y.fd fr w S A xs)(D:xs[k]?=some x):
 ∃g o,A=some ⟨g,o,none⟩/\S g/\w.cell? ⟨g,o+k * 16+1,none⟩=some (.int .i64 x.aC)/\w.cell? ⟨g,o+k * 16+12,none⟩=some (.bool x.gJ):=by
 obtain⟨g,o,cs,rfl,F,h3,h5⟩:=dm.at_ h D;exact⟨g,o,rfl,F,(h5 1 _ h3.2.2.2.1).1,(h5 12 _ h3.2.2.2.2).1⟩
theorem CH(w:World):Calls prog 7 #[] w λy w'=>y=.returned (.bool true)/\Below w.1.size w w':=by
 go_in;go_upto_region 2 with fail
 refine r9 λW1 bS bN J=>?_;refine rg 1 λW2 I K=>?_;replace bS:=bS.next I;replace bN:=bN.next I;replace J:=dW J I;clear I K;have HBS:=U bS;have zS:=bS.lt;have zB:=J.size;replace J:=U J;clear bS;obtain⟨h,hh⟩:=cJ w.1.size;simp only[hh] at bN HBS⊢;change aK _ at hh;have O:=ch bN;refine rD [1,2,5,6,7,8,9,10] 7 ?_;go_wp2;refine iJ ?_;clear O bN;refine qe λA0 gD=>?_;have CB:=U gD;obtain⟨INV,iy⟩:∃au:Nat->Act->World->Prop,∀m A y,au m A y↔∃x8 lJ o6 x2 lU uH:Value,A=(((((A0.put (some 8) x8).put (some 11) lJ).put (some 19) o6).put (some 2) x2).put (some 12) lU).put (some 20) uH/\FI W2 h m y x8 lJ o6 x2 lU uH:=⟨_,λ_ _ _=>Iff.rfl⟩;replace iy:=U iy;refine j3 [0,3,4,11,12,13] 16383 INV (by kernel_rfl) (by kernel_rfl) ?_ 1 ?_ 6 2022 _ _ (by kernel_rfl) ((iy _ _ _).2 ⟨A0.tmps.getD 8 undef,A0.tmps.getD 11 undef,A0.tmps.getD 19 undef,A0.tmps.getD 2 undef,A0.tmps.getD 12 undef,A0.tmps.getD 20 undef,by rw[<-gD];rfl,FI.start (by rfl) (by rfl) (by rfl) (by rfl) (by rfl) (by rfl)⟩)
 ·refine aZ ?_ (aZ ?_ (aZ ?_ (aZ ?_ (aZ ?_ (aZ ?_ iA)))));all_goals
   rintro m A y iK hd hinv;obtain⟨x8,lJ,o6,x2,lU,uH,ha,H⟩:=(iy _ _ _).1 hinv
  ·replace H:=U H;replace hd:=U hd;replace iK:=U iK;clear hinv;rw[ha,<-CB.Z];clear ha gD;simp only[di,dX,Act.put,eX,dK,dR];go_wp2_with fail;refine(Xi y).mono ?_;rintro _ y1 ⟨⟨A,k,rfl,hs⟩,I⟩;go_wp2;try simp only[dI]
   refine cD (λ_=>Ext.below (dW H.g I) bE) ?_;show INV (m|||2^0) _ _;refine(iy _ _ _).2 ⟨_,lJ,o6,x2,lU,uH,?_,H.s0 I hs⟩;rw[<-CB.Z];rfl
  ·replace H:=U H;replace hd:=U hd;replace iK:=U iK;clear hinv;rw[ha,<-CB.Z];clear ha gD;simp only[di,dX,Act.put,eX,dK,dR];go_wp2_with fail;try simp only[dI]
   try refine cD (λq=>absurd q (by decide)) ?_
   show INV (m|||2^3) _ _;refine(iy _ _ _).2 ⟨x8,_,o6,x2,lU,uH,?_,H.s3⟩;rw[<-CB.Z];rfl
  ·have q0:m.testBit 0=true:=dw.get (m:=m) (i:=0) (λh=>h) hd (by kernel_rfl);have q3:m.testBit 3=true:=dw.get (m:=m) (i:=3) (λh=>h) hd (by kernel_rfl);obtain⟨A9,k9,rfl,e1⟩:=H.b0 q0;obtain⟨H9,rfl,e2⟩:=H.b3 q3;replace e1:=U e1;replace e2:=U e2;replace H:=U H;replace hd:=U hd;replace iK:=U iK;clear hinv;rw[ha,<-CB.Z];clear ha gD;simp only[di,dX,Act.put,eX,dK,dR];go_wp2_with fail;try simp only[dI]
   try refine cD (λq=>absurd q (by decide)) ?_
   show INV (m|||2^4) _ _;refine(iy _ _ _).2 ⟨_,_,o6,x2,_,uH,?_,H.s4 e1.Z e2.Z⟩;rw[<-CB.Z];rfl
  ·replace H:=U H;replace hd:=U hd;replace iK:=U iK;clear hinv;rw[ha,<-CB.Z];clear ha gD;simp only[di,dX,Act.put,eX,dK,dR];go_wp2_with fail;try simp only[dI]
   try refine cD (λq=>absurd q (by decide)) ?_
   show INV (m|||2^11) _ _;refine(iy _ _ _).2 ⟨x8,lJ,_,x2,lU,uH,?_,H.ZZ⟩;rw[<-CB.Z];rfl
  ·have q4:m.testBit 4=true:=dw.get (m:=m) (i:=4) (λh=>h) hd (by kernel_rfl);have X2:m.testBit 11=true:=dw.get (m:=m) (i:=11) (λh=>h) hd (by kernel_rfl);obtain⟨A9,k9,H9,e1,e2,rfl⟩:=H.b4 q4;obtain⟨C9,rfl,e3⟩:=H.GS X2;replace e1:=U e1;replace e2:=U e2;replace e3:=U e3;replace H:=U H;replace hd:=U hd;replace iK:=U iK;clear hinv;rw[ha,<-CB.Z];clear ha gD;simp only[di,dX,Act.put,eX,dK,dR];go_wp2_with fail;try simp only[dI]
   try refine cD (λq=>absurd q (by decide)) ?_
   show INV (m|||2^12) _ _;refine(iy _ _ _).2 ⟨x8,lJ,_,x2,_,_,?_,H.Zg e1.Z e2.Z e3.Z⟩;rw[<-CB.Z];rfl
  ·replace H:=U H;replace hd:=U hd;replace iK:=U iK;clear hinv;rw[ha,<-CB.Z];clear ha gD;simp only[di,dX,Act.put,eX,dK,dR];go_wp2_with fail;try simp only[dI]
   try refine cD (λq=>absurd q (by decide)) ?_
   show INV (m|||2^13) _ _;refine(iy _ _ _).2 ⟨x8,lJ,o6,_,lU,uH,?_,H.s13⟩;rw[<-CB.Z];rfl
 intro A w9 hinv;obtain⟨x8,lJ,o6,x2,lU,uH,ha,H⟩:=(iy _ _ _).1 hinv;rw[ha,<-CB.Z];clear ha gD hinv;simp only[Act.put,eX,dK,dR];obtain⟨gA,gk,hN,hC,hs,⟨bN,lN⟩,⟨bC,lC⟩,e20⟩:=H.r8.done (by rfl);obtain⟨hX,e2,bX,lX⟩:=H.yS.done (by rfl);subst e20;subst e2;have hg:=H.g;have bS:=HBS.next hg;have zg:=hg.size;refine aG [14] 0 ?_;go_wp2_with (refine wpList_store_mid rfl 31 (.tmp 2) (.tmp 20) rfl hX 0 #[.int .i64 2,.slice gA 2 gk,.slice hN 2 2,true,.float .f64 4607182418800017408,.slice hC 6 6] rfl rfl (bX.cR rfl) (by kernel_rfl) (by simp[Value.oneCell']) ?_;rw[aH]);refine fX ?_;refine cd λW3 hW=>?_;refine eN ?_;have bX3:G W3 hX #[.int .i64 2,.slice gA 2 gk,.slice hN 2 2,true,.float .f64 4607182418800017408,.slice hC 6 6] 31:=G.eqv hW (bX.cm _ rfl);have cW:bH hX w9 W3:=bH.eqv hW (dQ _ _ _);clear hW;have hz:=cW.size;have nXN:hN≠hX:=eH bN bX (by decide);have nXC:hC≠hX:=eH bC bX (by decide);have zS2:=HBS.lt;have bS3:=bS.only cW (by omega);have bN3:=bN.only cW nXN;have bC3:=bC.only cW nXC;have CN:=hs.only cW id (hs.bM bX (by decide));have fO:Below h w W3:=(hh.Z▸(show Below w.1.size w w9 from dW J.Z hg)).trans ⟨cW.os,cW.tape,cW.output,ca cW.size.symm,λk Q=>cW.block k (by omega)⟩;have zl:=fO.size;have O:=ch bX3;clear H hg bS bN bC bX hs cW;go_upto_region 3 with fail
 go_wp2_with fail;refine(Rf gA (some ⟨hN,0,none⟩) (some ⟨hC,0,none⟩) gk 2 6 X9 4607182418800017408 Xj W3 (bO h W3.1.size) (λb q=>bO.hi q) (CN.on (λ_ q=>q.elim) λb e=>⟨by have:=(CN.lt b e).1;omega,(CN.lt b e).2⟩) (ay.wG bN3 (Rk bS3 ⟨bE,by omega⟩) ⟨by omega,bN3.lt⟩ rfl (by decide) (by decide)) (ay.wG bC3 TH ⟨by omega,bC3.lt⟩ rfl (by decide) (by decide)) (by decide) (by decide) (by decide)).mono ?_;rintro _ W4 ⟨hP,I⟩;clear O;rcases hP with⟨fz,_⟩|⟨_,vE,vS,vF,vC,c0,c1,c2,rfl,rfl,K,hS,hF,hc⟩
 ·exact absurd Rj fz
 obtain⟨kd,ki⟩:=TI;rw[show(V.kW X9 (Rc.iz 4607182418800017408) Xj).jB=_ from Gc.1] at K;rw[show(V.kW X9 (Rc.iz 4607182418800017408) Xj).steps=_ from Gc.2.1] at hS;rw[show(V.kW X9 (Rc.iz 4607182418800017408) Xj).eY=_ from ki] at hF;obtain⟨A0',A1',A2',k0,k1,k2,e,-⟩:=hc.cf;injection e with e;injection e with e;injection e with e0 e;injection e with e1 e;injection e with e2 e
 subst e0;subst e1;subst e2;obtain⟨EA,ek,he,le,me,K⟩:=K;obtain⟨SA,sk,hs,ls,ms,hS⟩:=hS;obtain⟨FA,fk,hf,lf,mf,hF⟩:=hF;replace he:vE=.slice EA 6 ek:=he;replace hs:vS=.slice SA 0 sk:=hs;replace hf:vF=.slice FA 1 fk:=hf;subst he;subst hs;subst hf;have Gm:=fO.trans (I.mono (by omega));have zW4:=I.size;replace K:=U K;replace hF:=U hF;replace Gm:=U Gm;clear hS fO I bS3 bN3 bC3 bX3 CN hc ki;go_upto_region 4 with fail
 refine jt λW5 b5 Ao=>?_;obtain⟨gE,oE,rfl,-,cE⟩:=dm.qW (K.aE λb q=>Ao.block b (bO.hi q)) (k:=5) (x:=0) rfl;obtain⟨gF,oF,rfl,-,cF1,cF12⟩:=dm.fd_ (hF.aE λb q=>Ao.block b (bO.hi q)) (k:=0) rfl;simp only[Nat.zero_mul,iS] at cF1 cF12;have tV:=Gm.trans (Ao.mono (by omega));replace tV:=U tV;clear Ao;have O:=ch b5;go_wp2;go_ret;exact⟨rfl,hh.symm▸tV.Z⟩
end Go.Proofs.YtmgahjkopiaglaaGreat
