/- Lemmas, walks and contracts by which the statement is proved. -/
import Derived.Test.YtmgahjkopiaglaaGreatK41
set_option maxRecDepth 100000
set_option maxHeartbeats 16000000
set_option linter.all false
namespace Go.Proofs.YtmgahjkopiaglaaGreat
open Go.RowKit Go.Proofs.Tryz
theorem Tryz.Ol:(prog.info? 176).map (λi=>(i.zero,i.size,i.bytes))=some (some (.agg #[aP,()]),2,32):=by kernel_rfl
theorem Tryz.Om:(prog.info? 178).map (λi=>(i.zero,i.size,i.bytes))=some (some (.agg #[aP,aP,aP]),3,24):=by kernel_rfl
def ES(S:Nat->Prop)(lo:Nat)(w:World)(v:Value):Nat->Prop:=λb=>S b\/(lo<=b/\b<w.1.size/\v.ownBlock≠some b)
def kG{α:Type}(r:Y α)(e:TypeId)(S:Nat->Prop)(lo:Nat)(w:World)(v:Value)(xs:List α):Prop:=cj r e lo w (ES S lo w v) v xs
section
variable{α:Type}{r:Y α}{e:TypeId}{S:Nat->Prop}{lo:Nat}{w w':World}{v v':Value}{xs:List α}
theorem kG.nil(r:Y α)(e:TypeId)(S:Nat->Prop)(lo:Nat)(w:World):kG r e S lo w (.slice none 0 0) []:=cj.nil _ _ _ _ _
theorem kG.lts(h:kG r e S lo w v xs)(hS:∀b,S b->b<lo)(hl:lo<=w.1.size):∀b,ES S lo w v b->b<w.1.size:=λb q=>q.elim (λq=>by have:=hS b q;omega) λq=>q.2.1
theorem kG.sW(h:cj r e lo w' (ES S lo w v) v' xs)(hs:w.1.size<=w'.1.size):kG r e S lo w' v' xs:=
 have h3:∀b,v'.ownBlock=some b->¬ES S lo w v b:=by obtain⟨_,_,_,h3⟩:=h;exact h3
 h.aF (λb q=>q.imp id λq=>⟨q.1,aU q.2.1 hs,λe=>h3 b e (.inr q)⟩) λb I q=>q.elim (λq=>h3 b I (.inl q)) λq=>q.2.2 I
theorem kG.next(h:kG r e S lo w v xs)(I:aY w w')(hS:∀b,S b->b<lo)(hl:lo<=w.1.size):kG r e S lo w' v xs:=
 kG.sW (cj.next h I (h.lts hS hl)) I.size
theorem kG.only{b:Nat}(h:kG r e S lo w v xs)(hs:bH b w w')(F:¬S b)(R:b<lo):kG r e S lo w' v xs:=
 kG.sW (cj.only h hs (λq=>q.elim F λq=>by omega) λe=>by have:=(h.lt b e).1;omega) (ca hs.size.symm)
theorem kG.on(h:kG r e S lo w v xs):ay r false w (EW S lo w) v xs:=cj.on h (λb q=>q.imp id λq=>⟨q.1,q.2.1⟩) λb e=> .inr (h.lt b e)
end
theorem xi{α:Type}{xs:List α}{j n:Nat}(h:j=min xs.length n):xs.take j=xs.take n:=by
 subst h;rcases Nat.le_total xs.length n with q|q
 ·rw[qJ q,iw,jL q]
 ·rw[Nat.min_eq_right q]
theorem cj.boxed{α:Type}{w:World}{g:Nat}(r:Y α)(e:TypeId)(B:Nat)(S:Nat->Prop)(I:G w g #[] e)(J:B<=g)(hS:∀b,S b->b<B):cj r e B w S (.slice g 0 0) []:=
 ⟨[],⟨by simp,.inr ⟨g,0,#[],rfl,J,I,bE,by unfold maxLen;omega,by simp,by simp⟩⟩,rfl,λb e q=>by have:=hS b q;simp[Value.ownBlock] at e;omega⟩
theorem dm.Xe{fr:Bool}{w:World}{S:Nat->Prop}{k:Nat}{A:Option Addr}{xs:List iN}{x:iN}(h:dm Y.jc fr w S A xs)(D:xs[k]?=some x):
 ∃g o,A=some ⟨g,o,none⟩/\S g/\w.cell? ⟨g,o+k * 3,none⟩=some (.int .i64 x.src)/\w.cell? ⟨g,o+k * 3+1,none⟩=some (.int .i64 x.bB)/\w.cell? ⟨g,o+k * 3+2,none⟩=some (.int .i64 x.next):=by
 obtain⟨g,o,cs,rfl,F,h3,h5⟩:=dm.at_ h D;have xG:cs=[.int .i64 x.src,.int .i64 x.bB,.int .i64 x.next]:=h3;subst xG;exact⟨g,o,rfl,F,by simpa[Y.jc] using(h5 0 _ rfl).1,by simpa[Y.jc,fK] using(h5 1 _ rfl).1,by simpa[Y.jc,fK] using(h5 2 _ rfl).1⟩
theorem cj.lower{α:Type}{r:Y α}{e:TypeId}{B B':Nat}{w:World}{S:Nat->Prop}{v:Value}{xs:List α}(h:cj r e B w S v xs)(J:B'<=B):cj r e B' w S v xs:=by
 obtain⟨cells,⟨h0,F⟩,R,h3⟩:=h;refine⟨cells,⟨h0,F.imp id λq=>?_⟩,R,h3⟩;obtain⟨g,cap,cur,q1,q2,q3⟩:=q;exact⟨g,cap,cur,q1,bT J q2,q3⟩
theorem aaf(z:nu)(A1 A2 A3:Option Addr)(k1 k2 k3:Nat)(w:World)(S:Nat->Prop)(hS:∀b,S b->b<w.1.size)(F:ay Y.int false w S (.slice A1 z.waits.length k1) z.waits)(R:ay Y.lh false w S (.slice A2 z.dg.length k2) z.dg)(h3:ay Y.jc false w S (.slice A3 z.dd.length k3) z.dd):
 Calls prog 48 #[.agg #[z.mode,.slice A1 z.waits.length k1,.slice A2 z.dg.length k2,.slice A3 z.dd.length k3]] w λy w'=>(∃v,y=.returned v/\da Y.eV w' (EW S w.1.size w') v (Tb.Dv z))/\aY w w':=by
 have VT:=F.bounds;have XJ:=R.bounds;have bb3:=h3.bounds;obtain⟨m,lu⟩:=cJ ((z.waits.take 10).length);have hm4:(min ((z.waits.length:Nat):Int) 10).toNat=m:=by rw[dL] at lu;omega
 have Bw:(0:Int)<=min ((z.waits.length:Nat):Int) 10:=by omega
 have hm5:min ((z.waits.length:Nat):Int) 10<=(k1:Int):=by omega
 have h1t:=F.take 10;rw[lu] at h1t;have HM:aK (m<=10/\(z.waits.take 10).length=m):=U ⟨by rw[dL] at lu;omega,lu⟩;clear lu F;replace h1t:=U h1t;have H2:=U R;change aK _ at hS;clear R;go_in;go_upto_region 1 with fail
 refine r9 λW1 b1 b2 J=>?_;have z1:=b2.lt;have OF:=U b1;have Ds:=U b2;go_cut [3] (λp3 wx=>∃(g3:Nat)(vA:Option Addr)(n9 vk:Nat),p3=.pointer g3/\W1.1.size<=g3/\(z.waits.take 10).length=n9/\G wx g3 #[z.mode,.slice vA n9 vk,(),()] 81/\cj Y.int 3 W1.1.size wx S (.slice vA n9 vk) (z.waits.take 10)/\aY W1 wx)
 case first=>
  refine rg 1024 λW2 I K=>?_;have ly:=J.trans (I.mono (by omega));replace b1:=b1.next I;have zW2:=I.size;have TD:=I;have HU:=U (h1t.aE (dx hS.Z ly));have hV:=bI W2.1.size W2;clear I;have O:=ch b1;refine aG [3,4,5,6,7] 9 ?_;go_wp2;refine rJ [0,1] 7 ?_;go_wp2;refine iJ ?_;clear O;refine tS 8 ?_;refine aG [9] 5 ?_;go_wp2;refine wJ 2 12 ?_ ?_;all_goals
   go_wp2;refine⟨λq=>absurd q (by decide),?_⟩
  ·refine Go.Proofs.YtmgahjkopiaglaaGreat.nb λW3 be I=>?_;have ct:=cj.boxed Y.int 3 W2.1.size S be (by omega) (λb q=>by have:=hS.Z b q;omega);replace hV:=dW hV I;replace K:=K.Gt I;have zW3:=I.size;have lW3:=be.lt;clear I be;refine tW 10 12 ?_ ?_
   ·replace ct:=U ct;go_wp2_with (at_builtin;refine j5 (r:=Y.int) rfl (.tmp 9) (.tmp 16) 36 rfl W2.1.size 3 Tryz.eG underlying36 rfl (by omega) (.slice W2.1.size 0 0) (.slice A1 m k1) rfl ct.Z (λb q=>by have:=hS.Z b q;omega) (by omega) rfl (HU.aE λb q=>hV.block b (by have:=hS.Z b q;omega)) (by have:=HM.Z;simp;omega) ?_;intro vW w4 im lE j7 nO);refine⟨λ_=>Ext.below (hV.trans j7) bE,?_⟩;have zw4:=lE.size;replace hV:=hV.trans j7;obtain⟨vA,vk,nG,_,_⟩:=im.form;obtain⟨n9,hn9e⟩:=cJ (([]++z.waits.take 10:List Int).length);rw[hn9e] at nG;subst nG;rw[gh] at hn9e;simp only[gh] at im;change aK _ at hn9e;replace im:=U im;clear lE j7 nO ct;refine aG [11,12,13] 0 ?_;go_wp2;refine fX ?_;refine cd λW5 hW=>?_;refine eN ?_;have I0:=G.eqv hW (G.new _ _ _);have I:=Below.eqv hW (cT.alloc bE _);clear hW;have qC:=im.next I λb q=>by have:=hS.Z b q;omega
    go_wp2;go_meet;exact⟨w4.1.size,vA,n9,vk,rfl,by omega,hn9e.Z,I0,qC.lower (by omega),TD.trans ((dW hV I).mono (by omega))⟩
   ·go_wp2;refine⟨λq=>absurd q (by decide),?_⟩;refine Go.Proofs.YtmgahjkopiaglaaGreat.nb λW6 b3 I=>?_;replace hV:=dW hV I;replace K:=K.Gt I;have zW6:=I.size;have lW6:=b3.lt;replace ct:=ct.next I λb q=>by have:=hS.Z b q;omega
    clear I;refine oN 10 ?_;replace ct:=U ct;go_wp2_with (at_builtin;refine j5 (r:=Y.int) rfl (.tmp 9) (.tmp 16) 36 rfl W2.1.size 3 Tryz.eG underlying36 rfl (by omega) (.slice W2.1.size 0 0) (.slice A1 m k1) rfl ct.Z (λb q=>by have:=hS.Z b q;omega) (by omega) rfl (HU.aE λb q=>hV.block b (by have:=hS.Z b q;omega)) (by have:=HM.Z;simp;omega) ?_;intro vW w7 im lE j7 nO);refine⟨λ_=>Ext.below (hV.trans j7) bE,?_⟩;have zw7:=lE.size;replace hV:=hV.trans j7;obtain⟨vA,vk,nG,_,_⟩:=im.form;obtain⟨n9,hn9e⟩:=cJ (([]++z.waits.take 10:List Int).length);rw[hn9e] at nG;subst nG;rw[gh] at hn9e;simp only[gh] at im;change aK _ at hn9e;replace im:=U im;replace b3:=b3.grown lE (λe=>by simp[Value.ownBlock] at e;omega);clear lE j7 nO ct;have O:=ch b3;refine aG [11,13] 0 ?_;go_wp2;refine fX ?_;clear O;refine cd λW8 hW=>?_;refine eN ?_;have I0:G W8 W3.1.size #[z.mode,.slice vA n9 vk,(),()] 81:=G.eqv hW ((((b3.cC 0 _).cC 1 _).cC 2 _).cC 3 _);have hV9:aY W2 W8:=Below.eqv hW ((((hV.setCell (by show _<=W3.1.size;omega) _).setCell (by show _<=W3.1.size;omega) _).setCell (by show _<=W3.1.size;omega) _).setCell (by show _<=W3.1.size;omega) _);have cW:bH W3.1.size w7 W8:=bH.eqv hW (((((bH.refl _ _).bd 0 _).bd 1 _).bd 2 _).bd 3 _);have qC:=im.only cW (λq=>by have:=hS.Z _ q;omega) (im.bM b3 (by decide));clear hW cW;go_wp2;go_meet;exact⟨W3.1.size,vA,n9,vk,rfl,by omega,hn9e.Z,I0,qC.lower (by omega),TD.trans (hV9.mono (by omega))⟩
  ·refine Go.Proofs.YtmgahjkopiaglaaGreat.nb λW9 b3 I=>?_;replace hV:=dW hV I;replace K:=K.Gt I;have zW9:=I.size;have lW9:=b3.lt;clear I;refine aG [2] 3 ?_;go_wp2;refine fX ?_;refine Go.Proofs.YtmgahjkopiaglaaGreat.nb λuj be I=>?_;have ct:=cj.boxed Y.int 3 W2.1.size S be (by omega) (λb q=>by have:=hS.Z b q;omega);replace hV:=dW hV I;replace K:=K.Gt I;have aeI:=I.size;have aeJ:=be.lt;replace b3:=b3.next I;clear I be;refine oN 10 ?_;replace ct:=U ct;go_wp2_with (at_builtin;refine j5 (r:=Y.int) rfl (.tmp 9) (.tmp 16) 36 rfl W2.1.size 3 Tryz.eG underlying36 rfl (by omega) (.slice W9.1.size 0 0) (.slice A1 m k1) rfl ct.Z (λb q=>by have:=hS.Z b q;omega) (by omega) rfl (HU.aE λb q=>hV.block b (by have:=hS.Z b q;omega)) (by have:=HM.Z;simp;omega) ?_;intro vW NZ im lE j7 nO);refine⟨λ_=>Ext.below (hV.trans j7) bE,?_⟩;have aj7:=lE.size;replace hV:=hV.trans j7;obtain⟨vA,vk,nG,_,_⟩:=im.form;obtain⟨n9,hn9e⟩:=cJ (([]++z.waits.take 10:List Int).length);rw[hn9e] at nG;subst nG;rw[gh] at hn9e;simp only[gh] at im;change aK _ at hn9e;replace im:=U im;replace b3:=b3.grown lE (λe=>by simp[Value.ownBlock] at e;omega);clear lE j7 nO ct;have O:=ch b3;refine aG [11,13] 0 ?_;go_wp2;refine fX ?_;clear O;refine cd λrq hW=>?_;refine eN ?_;have I0:G rq W2.1.size #[z.mode,.slice vA n9 vk,(),()] 81:=G.eqv hW ((((b3.cC 0 _).cC 1 _).cC 2 _).cC 3 _);have hV9:aY W2 rq:=Below.eqv hW ((((hV.setCell (by show _<=W2.1.size;omega) _).setCell (by show _<=W2.1.size;omega) _).setCell (by show _<=W2.1.size;omega) _).setCell (by show _<=W2.1.size;omega) _);have cW:bH W2.1.size NZ rq:=bH.eqv hW (((((bH.refl _ _).bd 0 _).bd 1 _).bd 2 _).bd 3 _);have qC:=im.only cW (λq=>by have:=hS.Z _ q;omega) (im.bM b3 (by decide));clear hW cW;go_wp2;go_meet;exact⟨W2.1.size,vA,n9,vk,rfl,by omega,hn9e.Z,I0,qC.lower (by omega),TD.trans (hV9.mono (by omega))⟩
 case rest=>
  obtain⟨g3,vA,n9,vk,rfl,fh,nO,b3,qC,hV⟩:=hcut;obtain⟨W9,rfl⟩:∃W,W=wc:=⟨_,rfl⟩;clear hm4 Bw hm5 HM h1t b1 b2;have b1:=OF.next hV;have b2:=Ds.next hV;replace J:=J.trans (hV.mono (by omega));have zV:=hV.size;obtain⟨lo2,vi⟩:=cJ W9.1.size;have b3l:=b3.lt;have b1l:=b1.lt;have ZO:=b2.lt;obtain⟨N,hN⟩:=cJ (min z.dg.length 10);have hNl:N<=z.dg.length/\N<=10/\(N=z.dg.length\/N=10):=by omega
  have HNM:aK (min z.dg.length 10=N):=U hN;have Xf:=qC.bM b3 (by decide);replace Xf:=U Xf;have B1:=U b1;have B2:=U b2;replace J:=U J;replace qC:=U qC;have UM:=U nO;clear b1 b2 nO hV OF Ds hN;go_upto_block 0 with fail
  go_cut [4] (λ_ wx=>∃(gP:Option Addr)(kP:Nat),G wx g3 #[z.mode,.slice vA n9 vk,.slice gP N kP,()] 81/\kG Y.lh 176 S lo2 wx (.slice gP N kP) ((z.dg.take N).map Tb.Ja)/\W9.grownBy wx (some g3))
  case first=>
   go_wp2;go_loopg [4,5,27] z.dg.length (λq i _ _ wr=>∃(j:Nat)(gP:Option Addr)(kP:Nat),i=.int .i64 (j:Int)/\j<=N/\q=z.dg.length-j/\G wr g3 #[z.mode,.slice vA n9 vk,.slice gP j kP,()] 81/\kG Y.lh 176 S lo2 wr (.slice gP j kP) ((z.dg.take j).map Tb.Ja)/\W9.grownBy wr (some g3))
   case atStart=>exact⟨0,none,0,rfl,by omega,by omega,b3,kG.nil _ _ _ _ _,ka _ _⟩
   case round=>
    clear b3;obtain⟨j,gP,kP,rfl,hj,Q,b3,hR,hG⟩:=hrel;change aK _ at Q;have sG:=hG.size;have b1:G wr w.1.size #[z.mode,.slice A1 z.waits.length k1,.slice A2 z.dg.length k2,.slice A3 z.dd.length k3] 81:=(hG.block _ b1l (λe=>by injection e;omega)).trans B1.Z;have HG:=U hG;have HR:=U hR;have B3:=U b3;clear hG hR b3;have O:=ch b1;by_cases F:j<z.dg.length
    case neg=>
     obtain rfl:j=N:=by omega
     go_wp2;go_meet;exact⟨gP,kP,B3.Z,HR.Z,HG.Z⟩
    by_cases R:j<10
    case neg=>
     obtain rfl:j=N:=by omega
     go_wp2;go_meet;exact⟨gP,kP,B3.Z,HR.Z,HG.Z⟩
    have bY:j<N:=by omega
    obtain⟨x,D⟩:=Pc.get_at (l:=z.dg) (j:=j) (by omega);have hU:∀b,S b->wr.1[b]?=w.1[b]?:=λb q=>(HG.block b (by have:=hS.Z b q;omega) (λe=>by injection e;have:=hS.Z b q;omega)).trans (J.block b (hS b q));obtain⟨gx,ox,Bs,cs,rfl,jy,x0,x1,Dc⟩:=dm.lh (H2.aE hU).arr D;have bbs:=Dc.bounds;obtain⟨ms,hms1⟩:=cJ ((x.eo.take 10).length);have hs4:(min ((x.eo.length:Nat):Int) 10).toNat=ms:=by rw[dL] at hms1;omega
    have Gs:(0:Int)<=min ((x.eo.length:Nat):Int) 10:=by omega
    have hs5:min ((x.eo.length:Nat):Int) 10<=(cs:Int):=by omega
    have Rh:=Dc.take 10;rw[hms1] at Rh;have HMS:aK (ms<=10):=U (by rw[dL] at hms1;omega);replace D:=U D;replace Rh:=U Rh;clear Dc hms1 hU jy;go_upto_region 6 with fail
    clear O x0 x1;refine nw λW5 b5 I=>?_;have zW5:=I.size;have hR:=HR.next I (λb q=>by have:=hS.Z b q;omega) (by omega);have hG:=aN HG.Z (aT I);have b3:=B3.next I;have Dc:=Rh.aE λb q=>I.block b (by have:=hS.Z b q;omega);have HU6:aK (∀b,S b->∀ {W:World},aY W5 W->W.1[b]?=W5.1[b]?):=U λb q W I=>I.block b (by have:=hS.Z b q;omega);clear I HR HG B3 Rh;have HR:=U hR;have HG:=U hG;have B3:=U b3;have B5:=U b5;have X4:=U Dc;clear hR hG b3 b5 Dc;refine rg 4096 λW6 I K=>?_;have zW6:=I.size;have b5:=B5.next I;have b3:=B3.next I;have hR:=HR.next I (λb q=>by have:=hS.Z b q;omega) (by omega);have hG:=aN HG.Z (aT I);have Dc:=X4.aE λb q=>HU6.Z b q I;have b5l:=b5.lt;have b3l:=b3.lt;clear I B5 B3 HR HG X4 HU6;have HR:=U hR;have HG:=U hG;have X4:=U Dc;have B3:=U b3;clear hR hG Dc;have O2:=ch b5;refine aG [5,6,7,8,9] 13 ?_;go_wp2;have O:=ch b3;refine rJ [0,1,2,3] 9 ?_;go_wp2;refine iJ ?_;clear O2 O b3;refine tS 10 ?_;refine aG [11,4] 6 ?_;go_wp2;refine fX ?_;refine Go.Proofs.YtmgahjkopiaglaaGreat.nb λW7 be I=>?_;have zW7:=I.size;have lW7:=be.lt;have ct:=cj.boxed Y.msg 205 W6.1.size S be (by omega) (λb q=>by have:=hS.Z b q;omega);have hV:=bI W6.1.size W6;replace hV:=dW hV I;replace ct:=U ct;clear be I b5;refine oN 12 ?_;go_wp2_with (at_builtin;refine j5 (r:=Y.msg) rfl (.tmp 39) (.tmp 46) 174 rfl W6.1.size 205 Tryz.Hd underlying174 rfl (by omega) (.slice W6.1.size 0 0) (.slice Bs ms cs) rfl ct.Z (λb q=>by have:=hS.Z b q;omega) (by omega) rfl (X4.aE λb q=>hV.block b (by have:=hS.Z b q;omega)) (by have:=HMS.Z;simp;omega) ?_;intro vW w8 im lE j7 nO);refine⟨λ_=>Ext.below (hV.trans j7) bE,?_⟩;have zW8:=lE.size;replace hV:=hV.trans j7;obtain⟨sA,sk,nG,_,_⟩:=im.form;obtain⟨n8,hn8e⟩:=cJ (([]++x.eo.take 10:List (Int×Int)).length);rw[hn8e] at nG;subst nG;clear hn8e;simp only[gh] at im;replace im:=U im;clear lE j7 nO ct K;refine aG [13,14] 3 ?_;go_wp2;refine fX ?_;refine Go.Proofs.YtmgahjkopiaglaaGreat.nb λuj bz I=>?_;have aeI:=I.size;have aeJ:=bz.lt;have Xg:=dW hV I;have hR:=HR.next Xg (λb q=>by have:=hS.Z b q;omega) (by omega);have hG:=aN HG.Z (aT Xg);have b3:=B3.next Xg;have UJ:=im.next I λb q=>by have:=hS.Z b q;omega
    have Dc:ay Y.msg false uj (ES S lo2 uj (.slice gP j kP)) (.slice sA n8 sk) (x.eo.take 10):=UJ.on (λb q=> .inl q) λb e=> .inr ⟨by have:=(UJ.lt b e).1;omega,(UJ.lt b e).2,λq=>by have:=(HR.lt b q).2;have:=(UJ.lt b e).1;omega⟩;clear UJ I im HR HG B3;have On:cj Y.lh 176 lo2 uj (ES S lo2 uj (.slice gP j kP)) (.slice gP j kP) ((z.dg.take j).map Tb.Ja):=hR;replace On:=U On;have HG:=U hG;have B3:=U b3;clear hR hG b3;refine oN 15 ?_;go_wp2_with (at_builtin;refine dv (r:=Y.lh) (y:=Tb.Ja x) rfl (.tmp 36) (.tmp 49) 78 rfl lo2 176 Tryz.Ol underlying78 rfl (by omega) (.slice gP j kP) rfl On.Z (λb q=>q.elim (λq=>by have:=hS.Z b q;omega) λq=>q.2.1) (by omega) 1 w8.1.size [x.next,.slice sA n8 sk] rfl bz ⟨_,rfl,Dc⟩ (by rw[ic,dL];omega) ?_;intro v11 NZ tq tt Lw Lx);first |change aV _ _ _ _ _ _ _ _ _ _|refine⟨λq=>absurd q (by decide),?_⟩
    have TG:=tt.size;obtain⟨gP9,kP9,he11,_,_⟩:=tq.form;have oV:((z.dg.take j).map Tb.Ja++[Tb.Ja x]).length=j+1:=by rw[dh,ic,dL,j'];omega
    rw[oV] at he11;subst he11;clear oV;have b3:=B3.grown tt λe=>by have:=(On.lt _ e).1;omega
    have hG:=jZ HG.Z tt λk e=>by have:=(On.lt k e).1;omega
    have RH:=kG.sW tq TG;replace RH:=U RH;replace hG:=U hG;clear tq tt Lw Lx On HG B3 bz Dc;have O:=ch b3;refine aG [16,17] 0 ?_;go_wp2;refine fX ?_;clear O;refine cd λrq hW=>?_;refine eN ?_;have cW:bH g3 NZ rq:=bH.eqv hW ((bH.refl _ _).bd 2 _);have I1:G rq g3 #[z.mode,.slice vA n9 vk,.slice gP9 (j+1) kP9,()] 81:=G.eqv hW (b3.cC 2 _);have Dr:W9.grownBy rq (some g3):=hW▸aN hG.Z (cU 2 _);have Jb:=RH.only cW (λq=>by have:=hS.Z _ q;omega) (by omega);clear hW cW b3;go_wp2;go_roundg (z.dg.length-(j+1))
    case rel=>
     refine⟨j+1,gP9,kP9,by simp,by omega,rfl,I1,?_,Dr⟩;rw[Pc.de D.Z,jP];exact Jb
    case measure=>have:=Q.Z;omega
  case rest=>
   clear b3;obtain⟨gP,kP,b3,Ms,uG⟩:=hcut;obtain⟨w0,rfl⟩:∃W,W=wc:=⟨_,rfl⟩;have sG:=uG.size;have b1:G w0 w.1.size #[z.mode,.slice A1 z.waits.length k1,.slice A2 z.dg.length k2,.slice A3 z.dd.length k3] 81:=(uG.block _ b1l (λe=>by injection e;omega)).trans B1.Z;replace uG:=U uG;replace Ms:=U Ms;have B3:=U b3;clear b3;obtain⟨lo3,hlo3⟩:=cJ w0.1.size;have Xh:∀b,S b->w0.1[b]?=w.1[b]?:=λb q=>(uG.block b (by have:=hS.Z b q;omega) (λe=>by injection e;have:=hS.Z b q;omega)).trans (J.block b (hS b q));have h30:=h3.aE Xh;replace h30:=U h30;clear Xh;have b3:=B3.Z;have aeN:=b1.lt;have Rt:=U b1;obtain⟨N2,qv⟩:=cJ (min z.dd.length 30);have akd:N2<=z.dd.length/\N2<=30/\(N2=z.dd.length\/N2=30):=by omega
   have aeO:aK (min z.dd.length 30=N2):=U qv;clear qv;have ake:=b3.lt;clear b1;go_upto_block 2 with fail
   go_cut [6] (λ_ wx=>∃(gT:Option Addr)(kT:Nat),G wx g3 #[z.mode,.slice vA n9 vk,.slice gP N kP,.slice gT N2 kT] 81/\cj Y.jc 178 lo3 wx S (.slice gT N2 kT) (z.dd.take N2)/\w0.grownBy wx (some g3))
   case first=>
    go_wp2;go_loopg [6,60] z.dd.length (λq i _ wr=>∃(j:Nat)(gT:Option Addr)(kT:Nat),i=.int .i64 (j:Int)/\j<=N2/\q=z.dd.length-j/\G wr g3 #[z.mode,.slice vA n9 vk,.slice gP N kP,.slice gT j kT] 81/\cj Y.jc 178 lo3 wr S (.slice gT j kT) (z.dd.take j)/\w0.grownBy wr (some g3))
    case atStart=>exact⟨0,none,0,rfl,by omega,by omega,b3,cj.nil _ _ _ _ _,ka _ _⟩
    case round=>
     clear b3;obtain⟨j,gT,kT,rfl,jx,Q,b3,hR,hG⟩:=hrel;change aK _ at Q;have HG0:=uG;have HR0:=Ms;clear uG Ms;have sG2:=hG.size;have b1:G wr w.1.size #[z.mode,.slice A1 z.waits.length k1,.slice A2 z.dg.length k2,.slice A3 z.dd.length k3] 81:=(hG.block _ aeN (λe=>by injection e;omega)).trans Rt.Z;have uG:=U hG;have Ms:=U hR;have B3:=U b3;clear hG hR b3;have O:=ch b1;by_cases F:j<z.dd.length
     case neg=>
      obtain rfl:j=N2:=by omega
      go_wp2;go_meet;exact⟨gT,kT,B3.Z,Ms.Z,uG.Z⟩
     by_cases R:j<30
     case neg=>
      obtain rfl:j=N2:=by omega
      go_wp2;go_meet;exact⟨gT,kT,B3.Z,Ms.Z,uG.Z⟩
     have rY:j<N2:=by omega
     obtain⟨x,D⟩:=Pc.get_at (l:=z.dd) (j:=j) (by omega);have HU6:aK (∀b,S b->∀ {W:World},aY wr W->W.1[b]?=w0.1[b]?):=U λb q W I=>(I.block b (by have:=hS.Z b q;omega)).trans (uG.block b (by have:=hS.Z b q;omega) (λe=>by injection e;have:=hS.Z b q;omega));have B1:=U b1;clear b1;go_upto_region 10 with fail
     clear O;refine rg 0 λW6 I K=>?_;have zW6:=I.size;have b1:=B1.next I;have b3:=B3.next I;have hR:=Ms.next I (λb q=>by have:=hS.Z b q;omega);have hG:=aN uG.Z (aT I);have b3l:=b3.lt;obtain⟨gx,ox,eA,jy,x0,x1,x2⟩:=dm.Xe (h30.aE λb q=>HU6.Z b q I).arr D;subst eA;clear I B1 B3 Ms uG HU6;have Ms:=U hR;have uG:=U hG;have B3:=U b3;clear hR hG;have O:=eE b1 b3;refine aG [0,1,2,3,4,5,6,7] 3 ?_;go_wp2;refine fX ?_;clear O x0 x1 x2 b1 b3;refine Go.Proofs.YtmgahjkopiaglaaGreat.nb λW7 bz I=>?_;have zW7:=I.size;have hR:=Ms.next I (λb q=>by have:=hS.Z b q;omega);have hG:=aN uG.Z (aT I);have b3:=B3.next I;clear I Ms uG B3;replace hR:=U hR;have uG:=U hG;have B3:=U b3;clear hG b3;refine oN 8 ?_;go_wp2_with (at_builtin;refine dv (r:=Y.jc) (y:=x) rfl (.tmp 64) (.tmp 70) 79 rfl lo3 178 Tryz.Om underlying79 rfl (by omega) (.slice gT j kT) rfl hR.Z (λb q=>by have:=hS.Z b q;omega) (by omega) 1 W6.1.size [x.src,x.bB,x.next] rfl bz rfl (by rw[dL];omega) ?_;intro v11 NZ tq tt Lw Lx);first |change aV _ _ _ _ _ _ _ _ _ _|refine⟨λq=>absurd q (by decide),?_⟩
     have TG:=tt.size;obtain⟨gT9,kT9,he11,_,_⟩:=tq.form;have oV:(z.dd.take j++[x]).length=j+1:=by rw[dh,dL,j'];omega
     rw[oV] at he11;subst he11;clear oV;have b3:=B3.grown tt λe=>by have:=(hR.lt _ e).1;omega
     have hG:=jZ uG.Z tt λk e=>by have:=(hR.lt k e).1;omega
     replace tq:=U tq;replace hG:=U hG;clear tt Lw Lx hR uG B3 bz;have O:=ch b3;refine aG [9,10] 0 ?_;go_wp2;refine fX ?_;clear O;refine cd λrq hW=>?_;refine eN ?_;have cW:bH g3 NZ rq:=bH.eqv hW ((bH.refl _ _).bd 3 _);have I1:G rq g3 #[z.mode,.slice vA n9 vk,.slice gP N kP,.slice gT9 (j+1) kT9] 81:=G.eqv hW (b3.cC 3 _);have Dr:w0.grownBy rq (some g3):=hW▸aN hG.Z (cU 3 _);have Jb:=tq.only cW (λq=>by have:=hS.Z _ q;omega) (λe=>by have:=(tq.lt _ e).1;omega);rw[<-Pc.de D] at Jb;clear hW cW b3;go_wp2;go_roundg (z.dd.length-(j+1))
     case rel=>exact⟨j+1,gT9,kT9,by simp,by omega,rfl,I1,Jb,Dr⟩
     case measure=>have:=Q.Z;omega
   case rest=>
    clear b3;obtain⟨gT,kT,b3,hR,hG⟩:=hcut;obtain⟨wr,rfl⟩:∃W,W=wc:=⟨_,rfl⟩;have HG0:=uG;have HR0:=Ms;clear uG Ms;have sG2:=hG.size;replace hG:=U hG;replace hR:=U hR;have B3:=U b3;clear b3;have b3:=B3.Z;have b2:G wr (w.1.size+1) #[aP,(),(),()] 81:=(hG.block _ (by omega) (λe=>by injection e;omega)).trans ((HG0.Z.block _ ZO (λe=>by injection e;omega)).trans B2.Z);have O:=eE b3 b2;go_wp2;clear O;have Xc:=(((b2.cC 0 (.int .i64 z.mode)).cC 1 (.slice vA n9 vk)).cC 2 (.slice gP N kP)).cC 3 (.slice gT N2 kT);refine bL (v:=.agg #[z.mode,.slice vA n9 vk,.slice gP N kP,.slice gT N2 kT]) ((iL results48 rfl).trans (Xc.ju 81 _ underlying81 rfl (by kernel_rfl))) rfl ?_;clear Xc;have r7:bH (w.1.size+1) wr ((((wr.setCell ⟨w.1.size+1,0,none⟩ (.int .i64 z.mode)).setCell ⟨w.1.size+1,1,none⟩ (.slice vA n9 vk)).setCell ⟨w.1.size+1,2,none⟩ (.slice gP N kP)).setCell ⟨w.1.size+1,3,none⟩ (.slice gT N2 kT)):=((((bH.refl _ _).bd 0 _).bd 1 _).bd 2 _).bd 3 _;obtain⟨WZ,hWZ⟩:∃W,W=((((wr.setCell ⟨w.1.size+1,0,none⟩ (.int .i64 z.mode)).setCell ⟨w.1.size+1,1,none⟩ (.slice vA n9 vk)).setCell ⟨w.1.size+1,2,none⟩ (.slice gP N kP)).setCell ⟨w.1.size+1,3,none⟩ (.slice gT N2 kT)):=⟨_,rfl⟩;rw[<-hWZ] at r7⊢;clear hWZ;have fM:=r7.size;have kp0:∀k,W1.1.size<=k->k<W9.1.size->k≠g3->WZ.1[k]?=W9.1[k]?:=λk k1 k2 k3=>(r7.block k (by omega)).trans ((hG.block k (by omega) (λe=>by injection e;omega)).trans (HG0.Z.block k k2 (λe=>by injection e;omega)));have kp1:∀k,lo2<=k->k<w0.1.size->k≠g3->WZ.1[k]?=w0.1[k]?:=λk k1 k2 k3=>(r7.block k (by omega)).trans (hG.block k k2 (λe=>by injection e;omega));have kp2:∀k,k≠w.1.size+1->WZ.1[k]?=wr.1[k]?:=λk k1=>r7.block k k1;have aeP:∀b,S b->w0.1[b]?=W9.1[b]?:=λb q=>HG0.Z.block b (by have:=hS.Z b q;omega) (λe=>by injection e;have:=hS.Z b q;omega);have hSk:∀b,S b->WZ.1[b]?=w0.1[b]?:=λb q=>(r7.block b (by have:=hS.Z b q;omega)).trans (hG.block b (by have:=hS.Z b q;omega) (λe=>by injection e;have:=hS.Z b q;omega));have q0:ay Y.int false WZ (EW S w.1.size WZ) (.slice vA n9 vk) (z.waits.take 10):=((qC.on (S':=λk=>S k\/(W1.1.size<=k/\k<W9.1.size/\k≠g3)) (λb q=> .inl q) λb e=> .inr ⟨(qC.lt b e).1,(qC.lt b e).2,λq=>Xf (q▸e)⟩).aE λb q=>q.elim (λq=>(hSk b q).trans (aeP b q)) λq=>kp0 b q.1 q.2.1 q.2.2).aF λb q=>q.imp id λq=>⟨by omega,by omega⟩;have q1:ay Y.lh false WZ (EW S w.1.size WZ) (.slice gP N kP) ((z.dg.take 10).map Tb.Ja):=by
     rw[<-xi HNM.Z.symm];exact(HR0.Z.on.aE λb q=>q.elim (λq=>hSk b q) λq=>kp1 b q.1 q.2 (by omega)).aF λb q=>q.imp id λq=>⟨by omega,by omega⟩
    have q2:ay Y.jc false WZ (EW S w.1.size WZ) (.slice gT N2 kT) (z.dd.take 30):=by
     rw[<-xi aeO.Z.symm];exact((hR.on (S':=λk=>S k\/(lo3<=k/\k<wr.1.size)) (λb q=> .inl q) λb e=> .inr (hR.lt b e)).aE λb q=>kp2 b (q.elim (λq=>by have:=hS.Z b q;omega) λq=>by omega)).aF λb q=>q.imp id λq=>⟨by omega,by omega⟩
    refine⟨⟨_,rfl,[_,_,_,_],rfl,_,_,_,rfl,q0,q1,q2⟩,?_⟩;have h5:=(J.grown HG0.Z (by omega) (λk e=>by injection e;omega)).grown hG.Z (by omega) (λk e=>by injection e;omega);exact⟨r7.os.trans h5.os,r7.tape.trans h5.tape,r7.output.trans h5.output,by have:=h5.size;omega,λk Q=>(r7.block k (by omega)).trans (h5.block k Q)⟩
theorem Tryz.Ly:(prog.info? 81).map (λi=>(i.zero,i.size,i.bytes))=some (some (.agg #[aP,(),(),()]),4,80):=by kernel_rfl
theorem Tryz.Oo:(prog.info? 84).map (λi=>(i.zero,i.size,i.bytes))=some (some (.agg #[aP,()]),2,32):=by kernel_rfl
theorem dm.Lz{fr:Bool}{w:World}{S:Nat->Prop}{k:Nat}{A:Option Addr}{xs:List iD}{x:iD}(h:dm Y.eC fr w S A xs)(D:xs[k]?=some x):
 ∃g o B c,A=some ⟨g,o,none⟩/\S g/\w.cell? ⟨g,o+k * 2,none⟩=some (.int .i64 x.start)/\w.cell? ⟨g,o+k * 2+1,none⟩=some (.slice B x.aL.length c)/\ay Y.eV fr w S (.slice B x.aL.length c) x.aL:=by
 obtain⟨g,o,v,q1,q2,q3,q4,q5⟩:=h.eC D;obtain⟨B,c,rfl,_⟩:=id q5;exact⟨g,o,B,c,q1,q2,q3,q4,q5⟩
theorem Ri(A:Option Addr)(c:Nat)(T:List iD)(w:World)(S:Nat->Prop)(hS:∀b,S b->b<w.1.size)(h:ay Y.eC false w S (.slice A T.length c) T):
 Calls prog 31 #[.slice A T.length c] w λy w'=>(∃v,y=.returned v/\ay Y.eC false w' (EW S w.1.size w') v ((T.take 8).map Tb.CF))/\aY w w':=by
 have bb:=h.bounds;change aK _ at hS;obtain⟨N,hN⟩:=cJ (min T.length 8);have hNl:N<=T.length/\N<=8/\(N=T.length\/N=8):=by omega
 have HNM:aK (min T.length 8=N):=U hN;clear hN;go_in;go_upto_region 2 with fail
 refine bK λW0 hW=>?_;have J:=Below.eqv hW (cT.alloc bE _);have h0:kG Y.eC 84 S w.1.size W0 (.slice w.1.size 0 0) []:=by
  rw[<-hW];exact⟨[],tQ (w:=w) (size:=Y.eC.size) w.1.size 84 0 [] (by simp) bE (by unfold maxLen;omega),rfl,λb e q=>by simp[Value.ownBlock] at e;subst e;exact q.elim (λq=>by have:=hS.Z _ q;omega) λq=>q.2.2 rfl⟩
 clear hW;go_upto_block 0 with fail
 go_cut [3,4] (λv _ wx=>∃(gO:Option Addr)(kO:Nat),v=.slice gO N kO/\kG Y.eC 84 S w.1.size wx (.slice gO N kO) ((T.take N).map Tb.CF)/\aY w wx)
 case first=>
  go_wp2;go_loopg [3,4,5,6,15] T.length (λq v i _ _ _ wr=>∃(j:Nat)(gO:Option Addr)(kO:Nat),v=.slice gO j kO/\i=.int .i64 (j:Int)/\j<=N/\q=T.length-j/\kG Y.eC 84 S w.1.size wr (.slice gO j kO) ((T.take j).map Tb.CF)/\aY w wr)
  case atStart=>exact⟨0,_,_,rfl,rfl,by omega,by omega,h0,J⟩
  case round=>
   clear h0 J;obtain⟨j,gO,kO,rfl,rfl,hj,hkj,U2,J⟩:=hrel;change aK _ at hkj;have sB:=J.size;by_cases F:j<T.length
   case neg=>
    obtain rfl:j=N:=by omega
    go_wp2;go_meet;exact⟨gO,kO,rfl,U2,J⟩
   by_cases R:j<8
   case neg=>
    obtain rfl:j=N:=by omega
    go_wp2;go_meet;exact⟨gO,kO,rfl,U2,J⟩
   have e8:decide ((j:Int)<8)=true:=cV (by omega);obtain⟨w4,rfl⟩:∃W,W=wr:=⟨_,rfl⟩;obtain⟨x,D⟩:=Pc.get_at (l:=T) (j:=j) F;have hUw:∀b,S b->w4.1[b]?=w.1[b]?:=λb q=>J.block b (hS b q);obtain⟨gx,ox,Bx,cx,eA,jy,x0,x1,gw⟩:=dm.Lz (h.aE hUw).arr D;subst eA;obtain⟨N5,zO⟩:=cJ (min x.aL.length 10);have akj:N5<=x.aL.length/\N5<=10/\(N5=x.aL.length\/N5=10):=by omega
   have aeQ:aK (min x.aL.length 10=N5):=U zO;replace D:=U D;replace U2:=U U2;replace J:=U J;replace hUw:=U hUw;clear zO gw jy;go_upto_region 6 with fail
   clear x0 x1;refine nw λW5 b5 I=>?_;have ob:∀b,b<w4.1.size->W5.1[b]?=w4.1[b]?:=I.block;have tV:=dW J.Z I;have hU5:∀b,S b->W5.1[b]?=w.1[b]?:=λb q=>(I.block b (by have:=hS.Z b q;omega)).trans (hUw b q);have z5:=I.size;have aeR:=b5.lt;have aak:=U2.Z;obtain⟨g5,hg5⟩:=cJ w4.1.size;have aal:aK (∀b,(Value.slice gO j kO).ownBlock=some b->b<g5):=U λb e=>by have:=(cj.lt aak b e).2;omega
   have akk:w.1.size<=g5:=by omega
   rw[hg5] at b5 aeR⊢;obtain⟨lo5,hlo5⟩:=cJ W5.1.size;have akl:w4.1.size<=g5:=by omega
   change aK _ at hg5 ob hU5;clear J hUw I aak;replace tV:=U tV;have O:=ch b5;go_upto_block 2 with fail
   clear O;go_cut [6] (λ_ wx=>∃(gS:Option Addr)(kS:Nat),G wx g5 #[x.start,.slice gS N5 kS] 84/\kG Y.eV 81 S lo5 wx (.slice gS N5 kS) ((x.aL.take N5).map Tb.Dv)/\W5.grownBy wx (some g5))
   case first=>
    go_wp2;go_loopg [6,35] x.aL.length (λq i _ wr=>∃(k:Nat)(gS:Option Addr)(kS:Nat),i=.int .i64 (k:Int)/\k<=N5/\q=x.aL.length-k/\G wr g5 #[x.start,.slice gS k kS] 84/\kG Y.eV 81 S lo5 wr (.slice gS k kS) ((x.aL.take k).map Tb.Dv)/\W5.grownBy wr (some g5))
    case atStart=>exact⟨0,none,0,rfl,by omega,by omega,b5,kG.nil _ _ _ _ _,ka _ _⟩
    case round=>
     clear b5;obtain⟨k,gS,kS,rfl,hk5,Q,b5,hR,hG⟩:=hrel;change aK _ at Q;have sG:=hG.size;have hU:∀b,S b->wr.1[b]?=w.1[b]?:=λb q=>(hG.block b (by have:=hS.Z b q;omega) (λe=>by injection e;have:=hS.Z b q;omega)).trans (hU5 b q);have Bl:=dm.Lz (h.aE hU).arr D.Z;obtain⟨gx,ox,Bx,cx,eA,jy,x0,x1,gw⟩:=Bl;injection eA with eA;injection eA with e1 e2;subst e1;subst e2
     have bbS:=gw.bounds;change aK _ at hU;have HG:=U hG;have HR:=U hR;have B5:=U b5;clear hG hR b5 gw;by_cases F:k<x.aL.length
     case neg=>
      obtain rfl:k=N5:=by omega
      go_wp2;go_meet;exact⟨gS,kS,B5.Z,HR.Z,HG.Z⟩
     by_cases R:k<10
     case neg=>
      obtain rfl:k=N5:=by omega
      go_wp2;go_meet;exact⟨gS,kS,B5.Z,HR.Z,HG.Z⟩
     have e10:decide ((k:Int)<10)=true:=cV (by omega);obtain⟨z,hxz⟩:=Pc.get_at (l:=x.aL) (j:=k) F;have hxN:=D.Z;go_upto_region 9 with fail
     clear x0 x1 jy;refine rg 1024 λW6 I K=>?_;have zW6:=I.size;have b5:=B5.next I;have hR:=HR.next I (λb q=>by have:=hS.Z b q;omega) (by omega);have hG:=aN HG.Z (aT I);have hU6:∀b,S b->W6.1[b]?=w.1[b]?:=λb q=>(I.block b (by have:=hS.Z b q;omega)).trans (hU b q);have b5l:=b5.lt;obtain⟨gx,ox,Bx,cx,eA,jy,x0,x1,gw⟩:=dm.Lz (h.aE hU6).arr hxN;injection eA with eA;injection eA with e1 e2;subst e1;subst e2
     obtain⟨gy,oy,Y1,Y2,Y3,y1,y2,y3,eB,hgy,c0,c1,c2,c3,hz⟩:=dm.eV gw.arr hxz;subst eB;obtain⟨_,_,_,ez,xj,mJ,FB⟩:=hz;simp only[qL,and_true,true_and] at ez;obtain⟨rfl,rfl,rfl⟩:=ez;have bbS:=gw.bounds;replace xj:=U xj;replace mJ:=U mJ;replace FB:=U FB;clear I hU6 B5 HR HG gw;have HR:=U hR;have HG:=U hG;have B5:=U b5;clear hR hG;refine aG [2,3,4,5,6,7,8,9] 7 ?_;go_wp2;clear x0 x1 c0 c1 c2 c3 jy hgy;have O:=ch b5;refine rJ [0,1] 5 ?_;go_wp2;refine iJ ?_;clear O b5;refine oN 10 ?_;go_wp2_with fail;refine(aaf z Y1 Y2 Y3 y1 y2 y3 W6 S (λb q=>by have:=hS.Z b q;omega) xj.Z mJ.Z FB.Z).mono ?_;rintro _ w7 ⟨⟨v,rfl,hv⟩,I⟩;obtain⟨csx,rfl,gw⟩:=hv;obtain⟨p0,p1,p2,p3,ecs⟩:∃p0 p1 p2 p3,csx=[p0,p1,p2,p3]:=by obtain⟨_,_,_,e,_⟩:=gw;exact⟨_,_,_,_,e⟩
     obtain⟨P1,P2,P3,n1,n2,n3,q1,q2,q3,ecs2⟩:∃P1 P2 P3 n1 n2 n3 q1 q2 q3,csx=[.int .i64 z.mode,.slice P1 n1 q1,.slice P2 n2 q2,.slice P3 n3 q3]:=by obtain⟨_,_,_,e,⟨_,_,rfl,_⟩,⟨_,_,rfl,_⟩,⟨_,_,rfl,_⟩⟩:=gw;exact⟨_,_,_,_,_,_,_,_,_,e⟩
     clear ecs;have X8:=K.Gt I;have hV:=I;have zW7:=I.size;have HST:=U gw;have ECS:=U ecs2;clear gw I;rw[ecs2];clear ecs2 xj mJ FB;go_wp2;refine⟨λ_=>X8,?_⟩;refine aG [11] 3 ?_;go_wp2;refine fX ?_;refine Go.Proofs.YtmgahjkopiaglaaGreat.nb λW8 bz I=>?_;have zW8:=I.size;have lW8:=bz.lt;have hV8:=dW hV I;have hR:=HR.next hV8 (λb q=>by have:=hS.Z b q;omega) (by omega);have hG:=aN HG.Z (aT hV8);have b5:=B5.next hV8;have gw:Y.eV.is false W8 (ES S lo5 W8 (.slice gS k kS)) csx (Tb.Dv z):=Y.eV.aF (Y.eV.aE HST.Z λb q=>I.block b (q.elim (λq=>by have:=hS.Z b q;omega) λq=>q.2)) λb q=>q.imp id λq=>⟨by omega,by omega,λe=>by have:=(HR.lt b e).2;omega⟩;replace gw:=U gw;clear I HST HR HG B5;have On:cj Y.eV 81 lo5 W8 (ES S lo5 W8 (.slice gS k kS)) (.slice gS k kS) ((x.aL.take k).map Tb.Dv):=hR;replace On:=U On;have HG:=U hG;have B5:=U b5;clear hR hG b5;refine oN 12 ?_;go_wp2_with (at_builtin;refine dv (r:=Y.eV) (y:=Tb.Dv z) rfl (.tmp 39) (.tmp 49) 82 rfl lo5 81 Tryz.Ly underlying82 rfl (by omega) (.slice gS k kS) rfl On.Z (λb q=>q.elim (λq=>by have:=hS.Z b q;omega) λq=>q.2.1) (by omega) 1 w7.1.size [z.mode,.slice P1 n1 q1,.slice P2 n2 q2,.slice P3 n3 q3] rfl bz (by have:=gw.Z;rw[ECS.Z] at this;exact this) (by rw[ic,dL];omega) ?_;intro v11 NZ tq tt Lw Lx);first |change aV _ _ _ _ _ _ _ _ _ _|refine⟨λq=>absurd q (by decide),?_⟩
     have TG:=tt.size;obtain⟨gS9,kS9,he11,_,_⟩:=tq.form;have oV:((x.aL.take k).map Tb.Dv++[Tb.Dv z]).length=k+1:=by rw[dh,ic,dL,j'];omega
     rw[oV] at he11;subst he11;clear oV;have b5:=B5.grown tt λe=>by have:=(On.lt _ e).1;omega
     have hG:=jZ HG.Z tt λk e=>by have:=(On.lt k e).1;omega
     have RH:=kG.sW tq TG;replace RH:=U RH;replace hG:=U hG;clear tq tt Lw Lx On HG B5 bz gw ECS;have O:=ch b5;refine aG [13,14] 0 ?_;go_wp2;refine fX ?_;clear O;refine cd λrq hW=>?_;refine eN ?_;have cW:bH g5 NZ rq:=bH.eqv hW ((bH.refl _ _).bd 1 _);have aeT:G rq g5 #[x.start,.slice gS9 (k+1) kS9] 84:=G.eqv hW (b5.cC 1 _);have Dr:W5.grownBy rq (some g5):=hW▸aN hG.Z (cU 1 _);have Jb:=RH.only cW (λq=>by have:=hS.Z _ q;omega) (by omega);clear hW cW b5;go_wp2;go_roundg (x.aL.length-(k+1))
     case rel=>
      refine⟨k+1,gS9,kS9,by simp,by omega,rfl,aeT,?_,Dr⟩;rw[Pc.de hxz,jP];exact Jb
     case measure=>have:=Q.Z;omega
   case rest=>
    clear b5;obtain⟨gS,kS,b5,hRS,Td⟩:=hcut;obtain⟨wi,rfl⟩:∃W,W=wc:=⟨_,rfl⟩;have sG5:=Td.size;have ako:=b5.lt;have hSO:∀(W:World),aY wi W->ay Y.eV false W (ES S w.1.size wi (.slice gO j kO)) (.slice gS N5 kS) ((x.aL.take 10).map Tb.Dv):=λ_ I=>by
     rw[<-xi aeQ.Z.symm];exact((kG.on hRS).aE λb q=>I.block b (q.elim (λq=>by have:=hS.Z b q;omega) λq=>q.2)).aF λb q=>q.imp id λq=>⟨by omega,q.2,λe=>by have:=aal.Z b e;omega⟩
    change aK _ at hSO;have Vh:=hg5.Z;have hRo:kG Y.eC 84 S w.1.size wi (.slice gO j kO) ((T.take j).map Tb.CF):=kG.sW (cj.aE U2.Z λb q=>by
     have bY:b<w4.1.size:=q.elim (λq=>q.elim (λq=>by have:=hS.Z b q;omega) λq=>q.2.1) λq=>(cj.lt U2.Z b q).2;exact(Td.block b (by omega) (λe=>by injection e;omega)).trans (ob b bY)) (by omega)
    clear Vh;have hBi:aY w wi:=tV.grown Td (by omega) (λk e=>by injection e;omega);replace hRo:=U hRo;replace hBi:=U hBi;clear hRS U2 aal tV Td;obtain⟨kc,kf,kl⟩:=b5.open_;go_upto_region 4 with(at_builtin;refine dv (r:=Y.eC) (y:=Tb.CF x) rfl (.tmp 52) (.tmp 54) 25 rfl w.1.size 84 Tryz.Oo underlying25 rfl (by omega) (.slice gO j kO) rfl (cj.next hRo.Z (cT.alloc bE _) λb q=>q.elim (λq=>by have:=hS.Z b q;omega) λq=>q.2.1) (λb q=>by have hq:b<wi.1.size:=q.elim (λq=>by have:=hS.Z b q;omega) λq=>q.2.1;simp;omega) (by simp;omega) 1 wi.1.size [x.start,.slice gS N5 kS] rfl (G.new _ _ _) ⟨_,rfl,hSO _ (cT.alloc bE _)⟩ (by rw[ic,dL];omega) ?_;intro v11 NZ tq tt Lw Lx;obtain⟨gO9,kO9,he11,_,_⟩:=tq.form;have oV:((T.take j).map Tb.CF++[Tb.CF x]).length=j+1:=(by rw[dh,ic,dL,j'];omega);rw[oV] at he11;subst he11;have aeW:=U tq;have aam:=U tt;clear oV tq tt Lw Lx kc kf kl)
    have ee:aY wi (wi.alloc (.cells #[x.start,.slice gS N5 kS] 84)):=cT.alloc bE _;have Jb:kG Y.eC 84 S w.1.size NZ (.slice gO9 (j+1) kO9) ((T.take (j+1)).map Tb.CF):=by
     rw[Pc.de D.Z,jP];exact kG.sW (w:=wi) (v:=.slice gO j kO) aeW.Z (bT ee.size aam.size)
    have Tg:aY w NZ:=(dW hBi.Z ee).grown aam.Z (by simp;omega) (λk e=>(cj.lt hRo.Z k e).1);clear ee b5 hSO;go_wp2;go_roundg (T.length-(j+1))
    case rel=>exact⟨j+1,gO9,kO9,rfl,by simp,by omega,rfl,Jb,Tg⟩
    case measure=>have:=hkj.Z;omega
 case rest=>
  clear h0 J;obtain⟨gO,kO,rfl,hR,J⟩:=hcut;go_wp2;go_ret;refine⟨⟨_,rfl,?_⟩,J⟩;rw[<-xi HNM.Z.symm];exact hR.on
end Go.Proofs.YtmgahjkopiaglaaGreat
