/- Lemmas, walks and contracts by which the statement is proved. -/
import Derived.Test.YtmgahjkopiaglaaGreatK11
import Derived.WalkMore
import Derived.ScopeJumps
import Derived.WideKeyEntry
import Derived.DeepKeys4
set_option maxRecDepth 100000
set_option maxHeartbeats 16000000
set_option linter.all false
namespace Go.Proofs.YtmgahjkopiaglaaGreat
open Go.RowKit Go.Proofs.Tryz
def qY(w:World)(g:Nat)(xs:List Int):Prop:=∃post:List Value,w.1[g]?=some (.cells (ints xs++post).toArray 3 (0,0))
theorem qY.cell{w:World}{g i:Nat}{xs:List Int}(h:qY w g xs)(hi:i<xs.length):w.cell? ⟨g,i,none⟩=some (.int .i64 (xs.getD i 0))/\w.frozen? ⟨g,i,none⟩=false:=by
 obtain⟨post,hh⟩:=h;refine⟨?_,by simp[World.frozen?,hh]⟩;rw[aD hh i,dY,lF (by rw[fW];exact hi),dB,eu hi];simp[ints,hi]
theorem qY.set{w:World}{g i:Nat}{xs:List Int}{x:Int}(h:qY w g xs)(hi:i<xs.length):qY (w.setCell ⟨g,i,none⟩ (.int .i64 x)) g (xs.set i x):=by
 obtain⟨post,hh⟩:=h;refine⟨post,?_⟩;rw[dS hh i];congr 2;apply Array.ext';simp only[eX,ints,wk];rw[List.set_append_left _ _ (by simpa using hi)]
theorem qY.aE{w w':World}{g:Nat}{xs:List Int}(h:qY w g xs)(Q:w'.1[g]?=w.1[g]?):qY w' g xs:=by obtain⟨p,hh⟩:=h;exact⟨p,Q.trans hh⟩
theorem qY.lt{w:World}{g:Nat}{xs:List Int}(h:qY w g xs):g<w.1.size:=by obtain⟨p,hh⟩:=h;exact gm hh
def CM(w:World)(g o c:Nat)(q:List Int):Prop:=∃pre post:List Value,w.1[g]?=some (.cells (pre++(ints q++post)).toArray 3 (0,0))/\pre.length=o/\q.length<=c/\c<=q.length+post.length/\c<=maxLen
theorem CM.aE{w w':World}{g o c:Nat}{q:List Int}(h:CM w g o c q)(Q:w'.1[g]?=w.1[g]?):CM w' g o c q:=by obtain⟨p,p2,hh,r⟩:=h;exact⟨p,p2,Q.trans hh,r⟩
theorem CM.lt{w:World}{g o c:Nat}{q:List Int}(h:CM w g o c q):g<w.1.size:=by obtain⟨p,p2,hh,_⟩:=h;exact gm hh
theorem CM.cell{w:World}{g o c j:Nat}{q:List Int}{u:Value}(h:CM w g o c q)(hu:(ints q)[j]?=some u):w.cell? ⟨g,o+j,none⟩=some u:=by
 obtain⟨pre,post,hh,F,_⟩:=h;have hj:j<(ints q).length:=(eD.1 hu).1;rw[aD hh,dY,pJ (by omega),F,vQ,lF hj];exact hu
theorem CM.head{w:World}{g o c:Nat}{q:List Int}{x:Int}(h:CM w g o c (x::q)):w.cell? ⟨g,o,none⟩=some (.int .i64 x):=h.cell (j:=0) rfl
theorem CM.tail{w:World}{g o c:Nat}{q:List Int}{x:Int}(h:CM w g o c (x::q)):CM w g (if c=1 then o else o+1) (c-1) q:=by
 obtain⟨pre,post,hh,F,R,h3,h4⟩:=h;simp only[fF] at R h3;by_cases hc:c=1
 ·have:q=[]:=ib (by omega);subst this;rw[aS hc];exact⟨pre,ints [x]++post,by simpa[ints] using hh,F,by simp,by omega,by omega⟩
 ·rw[aO hc];exact⟨pre++ints [x],post,by simpa[ints] using hh,by simp[F],by omega,by omega,by omega⟩
theorem CM.room{w:World}{g o c:Nat}{q:List Int}{x:Int}(h:CM w g o c q)(hc:q.length+1<=c):(w.cell? ⟨g,o+q.length,none⟩).isSome=true/\w.frozen? ⟨g,o+q.length,none⟩=false/\CM (w.setCell ⟨g,o+q.length,none⟩ (.int .i64 x)) g o c (q++[x]):=by
 obtain⟨pre,post,hh,F,R,h3,h4⟩:=h;cases post with
 |nil=>simp at h3;omega
 |cons p post=>
  refine⟨?_,by simp[World.frozen?,hh],pre,post,?_,F,by simp;omega,by simp at h3⊢;omega,h4⟩
  ·rw[aD hh,dY,pJ (by omega),pJ (by rw[fW];omega)];rw[F,fW,show o+q.length-o-q.length=0 by omega];rfl
  ·rw[dS hh];congr 2;apply Array.ext';simp only[eX];rw[ER _ _ (by omega),F,vQ,ER _ _ (by rw[fW];omega),fW,Nat.sub_self];simp[ints]
theorem CM.ie{w:World}{B:Nat}{v:Value}{q:List Int}(h:w.ownsRow B 3 1 v q.length (ints q))(hq:0<q.length):∃g c,v=.slice (some ⟨g,0,none⟩) q.length c/\B<=g/\CM w g 0 c q:=by
 obtain⟨hlen,h0|⟨g,cap,cur,rfl,hg,hh,hnc,CJ,fM,htake⟩⟩:=h
 ·exact absurd h0.2 (by omega)
 ·refine⟨g,cap,rfl,hg,[],cur.toList.drop q.length,?_,rfl,hnc,?_,CJ⟩
  ·rw[hh];congr 2;apply Array.ext';have e:cur.toList=ints q++cur.toList.drop q.length:=by
    have:=vU q.length cur.toList;rw[<-this,<-htake];simp
   simpa using e
  ·have e:cur.toList.length=cap:=by have:cur.toList.length=cur.size:=rfl;omega
   rw[iQ];omega
theorem qY.ie{w:World}{B n:Nat}{v:Value}{xs:List Int}(h:w.ownsRow B 3 1 v n (ints xs))(D:xs.length=n)(hn:0<n):∃g c,v=.slice (some ⟨g,0,none⟩) n c/\B<=g/\qY w g xs/\n<=c/\c<=maxLen:=by
 subst D;obtain⟨g,c,rfl,hg,pre,post,hh,F,R,_,h4⟩:=CM.ie h hn;obtain rfl:pre=[]:=ib F;exact⟨g,c,rfl,hg,⟨post,hh⟩,R,h4⟩
theorem qY.slice{w:World}{g c lo hi:Nat}{xs:List Int}(h:qY w g xs)(F:xs.length<=c)(R:c<=maxLen)(h3:lo<=g)(h4:g<hi):aM Y.int false w lo hi (.slice g xs.length c) xs:=by
 obtain⟨post,hh⟩:=h;refine⟨_,_,rfl,F,R,ints xs,kt _ _ _ _,λ_=>⟨g,0,rfl,⟨h3,h4⟩,λj u hj=>⟨?_,λh=>by cases h⟩⟩⟩;have jx:j<(ints xs).length:=(eD.1 hj).1;rw[iR,aD hh,dY,lF jx];exact hj
theorem wQ{l:List (Int×Int)}{n:Int}{e:Bool}:∀ {k:Nat} {x:Int},x∈Gr.upto l n e k->∃i:Nat,x=i/\i<k
 |0,x,h=>by simp[Gr.upto] at h
 |k+1,x,h=>by
  unfold Gr.upto at h;split at h
  ·rcases nf.1 h with h|h
   ·obtain⟨i,rfl,hi⟩:=wQ h;exact⟨i,rfl,by omega⟩
   ·simp at h;exact⟨k,h,by omega⟩
  ·obtain⟨i,rfl,hi⟩:=wQ h;exact⟨i,rfl,by omega⟩
theorem MV(n src:Nat)(v:Value)(xs:List (Int×Int))(w:World)(h:aM Y.msg false w 0 w.1.size v xs)(D:xs.length<=1000)(hn:n<=1000)(hs:src<n)(hl:∀x∈xs,0<=x.2/\x.2<n):
 Calls prog 42 #[.agg #[.int .i64 n,v],.int .i64 src] w λy w'=>(∃u,y=.returned u/\aM Y.int false w' w.1.size w'.1.size u (Gr.PF n xs src))/\aY w w':=by
 obtain⟨A,c,rfl,T8,hm,hA⟩:=id h;unfold maxLen at hm;obtain⟨av,hR⟩:=cJ (Gr.PF n xs src);rw[hR];have HRD:aK (Gr.Vt xs (2 * n+1) ((List.replicate n (-1)).set src 0) [(src:Int)]=av):=U (by rw[<-hR];unfold Gr.PF;rw[aS hs]);replace hA:=U hA;have ar:=U h;change aK _ at hl;clear h hR;go_in;try simp only[List.append_eq,nU,gh]
 go_upto_region 1 with fail
 refine jt λW0 bx J=>?_;have ab:=ch bx;go_step3;go_wp2_with fail;clear ab;refine(xM n src _ _).mono ?_;rintro e w1 ⟨rfl,I⟩;refine lW I bx J ?_;clear I bx J;intro _ bx J;rw[show Gr.node (n:Int) (src:Int)=true by unfold Gr.node;rw[cV (by omega),cV (by omega)];rfl];have ab:=ch bx;go_wp2_with fail;clear ab;refine Yi λW1 bm I=>?_;refine lW I bx J ?_;clear I bx J;intro _ bx J;refine(Se (-1) w1.1.size 0 1 n W1 hn (aD bm 0) bm.lt).mono ?_;rintro e w2 ⟨⟨u,rfl,hu⟩,I⟩;have bY:=bx.lt;replace bx:=bx.next I;replace J:=J.trans (I.mono J.size);clear I bm;obtain⟨g,cg,rfl,hg,pf,hcg,CJ⟩:=qY.ie (xs:=List.replicate n (-1)) (by simpa[ints] using hu) (by simp) (by omega);clear hu;obtain⟨e0,f0⟩:=pf.cell (i:=src) (by simpa using hs);have gg:=pf.lt;have HRO:=U pf;clear pf;go_upto_region 5 with fail
 clear e0 f0 gg;refine bK λW3 Xy=>?_;have pf:qY W3 g ((List.replicate n (-1)).set src 0):=Xy▸HRO.set (by simpa using hs);have TX:w.1.size<g:=by omega
 have Xs:G W3 w.1.size #[.int .i64 n,.slice A xs.length c] 24:=Xy▸(dF _ _ _ _ (by have:=TX;simp;omega)).trans bx;have fO:aY w W3:=Xy▸J.setCell (by simp;omega) _;clear Xy HRO bx J bY;have gg:=pf.lt;go_wp2_with fail;go_step3;go_wp2;go_loopg [6,7,9,10] (2 * n+1) (λk s _ _ _ wr=>∃(Z q:List Int)(gq oq cq:Nat),s=.slice (some ⟨gq,oq,none⟩) q.length cq/\Gr.Fu n k Z q/\k<=2 * n+1/\Gr.Vt xs k Z q=av/\qY wr g Z/\CM wr gq oq cq q/\w.1.size<gq/\gq≠g/\G wr w.1.size #[.int .i64 n,.slice A xs.length c] 24/\aY w wr)
 case atStart=>exact⟨_,[(src:Int)],W3.1.size,0,1,rfl,Gr.Fu.start hs hn,bE,HRD.Z,pf.aE (nm _ _ gg),⟨[],[],np _ _,rfl,by simp,by simp,by unfold maxLen;omega⟩,by omega,by omega,Xs.alloc _,fO.alloc fO.size _⟩
 case round=>
  clear Xs fO pf gg;obtain⟨Z,q,gq,oq,cq,rfl,hD,wD,hR,pf,hqa,hgq,fz,bx,J⟩:=hrel;change aK _ at hR;replace hD:=U hD;cases q with
  |nil=>
   have hlen:=hD.len;have acB:aK (Z=av):=U (by rw[<-hR.Z];exact(Gr.Sg xs Z _).symm);have qZ:=pf.slice (c:=cg) (lo:=w.1.size) (by omega) CJ (by omega) pf.lt;rw[hlen] at qZ;replace qZ:=U qZ;clear pf hqa;go_wp2;rw[Exit.noGoto_ret];go_ret;exact⟨⟨_,rfl,by rw[<-acB.Z];exact qZ.Z⟩,J⟩
  |cons q0 qs=>
   obtain⟨k',hk'⟩:=hD.pos;subst hk';have OH:=hD.qs q0 (by simp);obtain⟨qn,rfl⟩:∃qn:Nat,q0=qn:=⟨q0.toNat,by omega⟩;have hqn:qn<n:=by omega
   have K:=hD.pop (l:=xs) (by omega);have Gj:=hR.Z;unfold Gr.Vt at Gj;rw[dG] at K Gj;obtain⟨os,Yu⟩:=cJ (Gr.outs xs qn);have acC:aK (∀x∈os,∃i:Nat,x=i/\i<xs.length):=U (λx D=>wQ (by rw[<-Yu] at D;exact D));rw[Yu] at Gj;have HE:=U K;have OI:=U Gj;change aK _ at Yu;clear K Gj hR hD OH;have Yv:=hqa.head;have gg:=hqa.lt;obtain⟨pre,post,nq,Fv,qX,oW,Kk⟩:=id hqa;clear nq Fv;simp only[fF] at qX oW;unfold maxLen at Kk;have HTA:=U hqa.tail;clear hqa;have ab:=ch bx;go_upto_region 8 with fail
   obtain⟨o2,ho2⟩:=cJ (if cq=1 then oq else oq+1);have Sh:=HTA.Z;rw[ho2] at Sh;have HT2:=U Sh;clear Sh HTA;change aK _ at ho2;go_cut [6] (λu wx=>u=.slice (some ⟨gq,o2,none⟩) qs.length (cq-1)/\wx=wr)
   case first=>
    by_cases uh:cq=1
    ·have Yw:o2=oq:=by rw[<-ho2.Z,aS uh]
     change aK _ at Yw;clear ho2 HT2;subst uh;go_wp2;go_meet;exact⟨by rw[Yw.Z,show qs.length=0 by omega],rfl⟩
    ·have Yw:o2=oq+1:=by rw[<-ho2.Z,aO uh]
     change aK _ at Yw;go_wp2;go_meet;exact⟨by rw[Yw.Z],rfl⟩
   case rest=>
   obtain⟨rfl,rfl⟩:=hcut;obtain⟨wr,rfl⟩:∃x:World,x=wc:=⟨_,rfl⟩;have Sh:=HT2.Z;clear ho2 HT2;clear Yv;go_wp2_with fail;clear ab;refine(mQ n qn _ xs _ ((ar.below J bE).aF bE J.size) (by omega)).mono ?_;rintro e w4 ⟨⟨u,rfl,hu⟩,I⟩;rw[Yu.Z] at hu;obtain⟨wo,rfl⟩:∃x:World,x=wr:=⟨_,rfl⟩;have Ub:=pf.lt;replace pf:=pf.aE (I.block g pf.lt);replace Sh:=Sh.aE (I.block gq Sh.lt);replace bx:=bx.next I;replace J:=J.trans (I.mono J.size);obtain⟨A',c',rfl,hlu,hmu,hAu⟩:=id hu;unfold maxLen at hmu;replace hAu:=U hAu;have PH:=U I.size;clear hu I;have yZ:=gg;clear gg;go_wp2;go_loopg [6,9,10,36] os.length (λm s _ _ i wr=>∃(j:Nat)(Z q:List Int)(gq oq cq:Nat),i=.int .i64 (j:Int)/\j<=os.length/\m=os.length-j/\s=.slice (some ⟨gq,oq,none⟩) q.length cq/\Gr.PG xs n k' qn Z q/\Gr.Vt xs k' ((os.drop j).foldl (Gr.step xs qn) (Z,q)).1 ((os.drop j).foldl (Gr.step xs qn) (Z,q)).2=av/\qY wr g Z/\CM wr gq oq cq q/\w.1.size<gq/\gq≠g/\(gq<wo.1.size\/w4.1.size<=gq)/\G wr w.1.size #[.int .i64 n,.slice A xs.length c] 24/\aY w wr/\w4.1.size<=wr.1.size/\(∀b,wo.1.size<=b->b<w4.1.size->wr.1[b]?=w4.1[b]?))
   case atStart=>exact⟨0,Z,qs,gq,o2,cq-1,rfl,by omega,by omega,rfl,HE.Z,OI.Z,pf,Sh,hgq,fz,.inl yZ,bx,J,bE,λ_ _ _=>rfl⟩
   case round=>
    clear bx J pf Sh hgq fz qX oW Kk HE OI yZ;obtain⟨j,Z,q,gq,oq,cq,rfl,hj,xt,rfl,K,Gj,pf,hqa,hgq,fz,hgw4,bx,J,hs4,hfix⟩:=hrel;replace K:=U K;change aK _ at Gj xt;by_cases bY:j<os.length
    ·obtain⟨li,hli⟩:=Pc.get_at bY;obtain⟨ln,rfl,sM⟩:=acC.Z li (dV hli);obtain⟨⟨x1,x2⟩,iF⟩:=Pc.get_at sM;have Vs:=hl.Z _ (dV iF);obtain⟨tn,rfl⟩:∃tn:Nat,x2=tn:=⟨x2.toNat,by have:=Vs.1;dsimp only at this;omega⟩;have kH:tn<n:=by have:=Vs.2;dsimp only at this;omega
     have wO:Gr.step xs qn (Z,q) (ln:Int)=if Z.getD tn 0<0 then(Z.set tn (Z.getD qn 0+1),q++[(tn:Int)]) else(Z,q):=by
      unfold Gr.step;rw[dG,Gr.uz iF];simp
     have DP:=K.step (i:=(ln:Int)) (by rw[dG,Gr.uz iF];exact Vs);have Si:=Gj.Z;have Uc:os.drop j=(ln:Int)::os.drop (j+1):=by rw[AQ bY,(eD.1 hli).2]
     rw[Uc,kK] at Si;have hlen:=K.inv.len;have Ud:q.length<=3000:=by have F:=K.inv.mu;have R:=K.k;unfold Gr.mu at F;dsimp only at F;omega
     have Fw:=K.inv.low _ (Gr.Bz (i:=qn) (by omega));have rL:=K.own;obtain⟨gx,o,rfl,acF,hgx2,e0⟩:=(hAu.aE λb F R=>hfix b F R).int hli;have acG:gx<wr.1.size:=by omega
     obtain⟨gl,ol,rfl,_,gg,c0,c1⟩:=(hA.below J bE).msg iF;dsimp only at c0 c1;have acH:gl<wr.1.size:=aU gg J.size;obtain⟨v1,f1⟩:=pf.cell (i:=tn) (by omega);obtain⟨v2,_⟩:=pf.cell (i:=qn) (by omega);have DB:=pf.lt;obtain⟨xo,Yx⟩:=cJ (Z.getD tn 0);obtain⟨yo,PI⟩:=cJ (Z.getD qn 0);rw[Yx] at v1;rw[PI] at v2 Fw rL;rw[Yx,PI] at wO;have RB:yo<=3000:=by omega
     change aK _ at wO;replace DP:=U DP;replace Si:=U Si;clear Uc hli iF Vs Yx PI Gj rL;have ab:=ch bx;by_cases JS:xo<0
     ·rw[aS JS] at wO;go_upto_region 15 with fail
      clear ab;clear e0 c0 c1 v1 v2 f1 acG acH;refine bK λW5 Vu=>?_;have Kl:qY W5 g (Z.set tn (yo+1)):=Vu▸pf.set (by omega);have PJ:CM W5 gq oq cq q:=Vu▸hqa.aE (dF _ _ _ _ (by simp;omega));have Yy:G W5 w.1.size #[.int .i64 n,.slice (some ⟨gl,ol,none⟩) xs.length c] 24:=Vu▸(dF _ _ _ _ (by simp;omega)).trans bx;have tV:aY w W5:=Vu▸J.setCell (by simp;omega) _;have Vv:W5.1.size=wr.1.size:=Vu▸(by simp[World.setCell]);have PM:∀b,wo.1.size<=b->b<w4.1.size->W5.1[b]?=w4.1[b]?:=λb F R=>(Vu▸dF _ _ _ _ (by have:=Ub;simp;omega):W5.1[b]?=wr.1[b]?).trans (hfix b F R);clear Vu pf hqa bx J hfix DB;have Yz:=PJ.lt;obtain⟨i0,CI,Gf,xj,mJ⟩:=mC Tryz.eG;obtain⟨pre,post,nq,Fv,qX,oW,Kk⟩:=id PJ;clear nq Fv;have acI:=Kk;unfold maxLen at acI;change aK _ at Vv;have YA:=U hs4;change aK _ at PM;replace Kl:=U Kl;replace Yy:=U Yy;replace tV:=U tV;have PN:∀j u,(ints q)[j]?=some u->(W5.alloc (.cells #[(tn:Int)] 3)).cell? ⟨gq,oq+j,none⟩=some u:=λj u hu=>(PJ.aE (nm _ _ Yz)).cell hu;change aK _ at PN;by_cases rG:q.length+1<=cq
      ·have Hg:=(PJ.aE (w':=W5.alloc (.cells #[(tn:Int)] 3)) (nm _ _ Yz)).room (x:=(tn:Int)) rG;replace Hg:=U Hg;clear PJ;go_wp2_with (at_builtin;refine wpList_append_arg _ rfl (.tmp 59) (.tmp 61) 36 rfl 3 i0 _ 1 8 underlying36 CI Gf xj mJ rfl (by omega) gq oq q.length cq (ints q) rfl (by simp) PN.Z ⟨W5.1.size,0,none⟩ 1 1 [(tn:Int)] rfl rfl (cell_one_new _ _ _) (by simp;rfl) (λ_ j hj=>by obtain rfl:j=0:=(by simp at hj;omega);rw[nW,iS];exact⟨Hg.1,Hg.2.1⟩) (by unfold maxLen;omega) (by omega) (λ_=>?_) (λh=>by omega));go_roundg (os.length-(j+1))
       case rel=>
        rw[wO.Z] at Si DP;exact⟨j+1,Z.set tn (yo+1),q++[(tn:Int)],gq,oq,cq,by simp,by omega,rfl,by rw[dh];rfl,DP.Z,Si.Z,(Kl.aE (nm _ _ Kl.lt)).aE (dF _ _ _ _ (by simp;omega)),Hg.2.2,hgq,fz,hgw4,(dF _ _ _ _ (by simp;omega)).trans (Yy.alloc _),((tV.alloc tV.size _).setCell (by simp;omega) _),by have F:=YA.Z;have R:=Vv.Z;show w4.1.size<=((W5.alloc _).setCell _ _).1.size;simp[World.setCell];omega,λb F R=>(dF _ _ _ _ (by simp;omega)).trans ((nm _ _ (by have:=YA.Z;have:=Vv.Z;omega)).trans (PM b F R))⟩
       case measure=>have:=xt.Z;omega
      ·go_wp2_with (at_builtin;refine wpList_append_arg _ rfl (.tmp 59) (.tmp 61) 36 rfl 3 i0 _ 1 8 underlying36 CI Gf xj mJ rfl (by omega) gq oq q.length cq (ints q) rfl (by simp) PN.Z ⟨W5.1.size,0,none⟩ 1 1 [(tn:Int)] rfl rfl (cell_one_new _ _ _) (by simp;rfl) (λh=>absurd h rG) (by unfold maxLen;omega) (by omega) (λh=>absurd h rG) (λ_=>?_);intro v6 w6 YB Vw);go_roundg (os.length-(j+1))
       case rel=>
        rw[wO.Z] at Si DP;obtain⟨g6,c6,rfl,DQ,hq6⟩:=CM.ie (q:=q++[(tn:Int)]) (by rw[dh,sv];exact YB) (by simp);have acJ:=Vw.size;have Xz:∀b,b<W5.1.size->w6.1[b]?=W5.1[b]?:=λb I=>(Vw.block b (by simp;omega) (by simp)).trans (nm _ _ I);have LY:aY w w6:=(tV.alloc tV.size _).grown Vw (by have:=tV.size;simp;omega) (λk Q=>by cases Q);exact⟨j+1,Z.set tn (yo+1),q++[(tn:Int)],g6,0,c6,by simp,by omega,rfl,by rw[dh],DP.Z,Si.Z,Kl.aE (Xz _ Kl.lt),hq6,by simp at DQ;have:=tV.size;omega,by simp at DQ;have:=Kl.lt;omega,.inr (by simp at DQ;have:=YA.Z;have:=Vv.Z;omega),(Xz _ Yy.lt).trans Yy.Z,LY,by have:=YA.Z;have:=Vv.Z;simp at acJ;omega,λb F R=>(Xz b (by have:=YA.Z;have:=Vv.Z;omega)).trans (PM b F R)⟩
       case measure=>have:=xt.Z;omega
     ·rw[aO JS] at wO;rw[wO.Z] at Si DP;have afB:¬(xo<0):=JS;go_wp2;go_roundg (os.length-(j+1))
      case rel=>exact⟨j+1,Z,q,gq,oq,cq,by simp,by omega,rfl,rfl,DP.Z,Si.Z,pf,hqa,hgq,fz,hgw4,bx,J,hs4,hfix⟩
      case measure=>have:=xt.Z;omega
    ·have jx:j=os.length:=by omega
     subst jx;have qZ:=Gj.Z;rw[List.drop_length] at qZ;replace qZ:=U qZ;go_wp2;go_roundg k'
     case rel=>exact⟨Z,q,gq,oq,cq,rfl,K.inv,by omega,qZ.Z,pf,hqa,hgq,fz,bx,J⟩
     case measure=>omega
end Go.Proofs.YtmgahjkopiaglaaGreat
namespace Go.Proofs.YtmgahjkopiaglaaGreat
open Go.RowKit Go.Proofs.Tryz Go.Maps Go.ChangeMaps
theorem MW{P:Program}{w:World}{t k e:TypeId}{q:IntKind}{b n:Nat}{ab:DataW Unit}(KL:WideMaps.KeyLaw P k)(ht:P.underlying t=some (.map k e))(he:P.underlying e=some (.int q))(h:w.ownsMap P k (plainElem P e) b n ab)(hn:n<maxLen)
 (hz:∀u:World,(zeroValue e).run P u=.ok (.int q 0) u){key:Value}{kl:Lit}(jA:keyOf P k key=some kl):
 ∃(v0:Value)(st:Nat)(w1:World),(Instr.mapEntry t (.map (some b)) key).run P w=.ok (.tuple #[v0,goInt st]) w1/\w.grownBy w1 (some b)/\
  ∀c:Int,(Lit.int q c).wf=true->∃w2,(Instr.entryStore t (.map (some b)) (goInt st) (.int q c)).run P w1=.ok () w2/\w2.ownsMap P k (plainElem P e) b (n+1) (ab.put kl (.lit (.int q c)))/\w.grownBy w2 (some b):=by
 have cG:=h;obtain⟨es,clock,I,aa,hs,hD⟩:=h;obtain⟨v0,st,es1,clock1,F,_,h3⟩:=WideElems.entry_then_store KL ht hz I aa jA;have ee:(setBlock w b (.map es1 clock1)).1[b]?=some (.map es1 clock1):=heap_setBlock_same I _;refine⟨v0,st,_,F,⟨rfl,rfl,rfl,by simp[setBlock],λi _ hi=>heap_setBlock_other I _ (λe=>hi (by rw[e]))⟩,λc hc=>?_⟩;obtain⟨es',clock',r1,r2⟩:=h3 _ (.int q c) ee;obtain⟨w',pa,ho,_⟩:=cG.update (Keyed.of_law KL) ht hn jA (wj he hc);rw[r2] at pa;injection pa with _ hw
 subst hw;refine⟨_,r1,?_,⟨rfl,rfl,rfl,by simp[setBlock],λi _ hi=>(heap_setBlock_other ee _ (λe=>hi (by rw[e]))).trans (heap_setBlock_other I _ (λe=>hi (by rw[e])))⟩⟩;obtain⟨es2,clock2,dO,r⟩:=ho;rw[heap_setBlock_same I _] at dO;cases dO;exact⟨es',clock',heap_setBlock_same ee _,r⟩
theorem Fx{P:Program}{w:World}{t k e:TypeId}{q:IntKind}{b n:Nat}{ab:DataW Unit}(KL:WideMaps.KeyLaw P k)(ht:P.underlying t=some (.map k e))(he:P.underlying e=some (.int q))(h:w.ownsMap P k (plainElem P e) b n ab)(hn:n<maxLen)
 (hz:∀u:World,(zeroValue e).run P u=.ok (.int q 0) u){key:Value}{kl:Lit}(jA:keyOf P k key=some kl){v:Value}{w1:World}(pa:(Instr.mapEntry t (.map (some b)) key).run P w=.ok v w1):
 ∃D1,w1.ownsMap P k (plainElem P e) b (n+1) D1/\D1.atKey kl (.lit (.int q 0))=ab.atKey kl (.lit (.int q 0)):=by
 have aj:=Keyed.of_law KL;have cG:=h;obtain⟨es,clock,I,aa,hs,hD⟩:=h;rcases aj.find w jA es.toList aa.keys with⟨F,R⟩|⟨j,e0,F,R,h3⟩
 ·have Gk:(Instr.mapUpdate t (.map (some b)) key (.int q 0)).run P w=.ok () (setBlock w b (.map (es.push ⟨key,.int q 0,clock⟩) (clock+1))):=by
   simp[Instr.mapUpdate,kM ht,xy I,aj.check w false jA,F,zQ _ I,Result.andThen,setBlock]
  have Sj:(Instr.mapEntry t (.map (some b)) key).run P w=.ok (.tuple #[.int q 0,goInt clock]) (setBlock w b (.map (es.push ⟨key,.int q 0,clock⟩) (clock+1))):=by
   simp[Instr.mapEntry,kM ht,xy I,aj.check w false jA,F,hz,zQ _ I,Result.andThen,setBlock]
  rw[Sj] at pa;injection pa with _ hw
  subst hw;obtain⟨w',hr,ho,_⟩:=cG.update aj ht hn jA (wj he (by cases q<;>decide:(Lit.int q 0).wf=true));rw[Gk] at hr;injection hr with _ hw
  subst hw;refine⟨_,ho,?_⟩;rw[zP cG.isMap (aj.key jA)];obtain⟨c,hl,jK,_⟩:=cG.lookup_int aj ht he (hz w) jA;have DH:(Instr.lookup t (.map (some b)) key false).run P w=.ok (.int q 0) w:=by
   simp[Instr.lookup,kM ht,xy I,aj.check w es.isEmpty jA,F,hz,Result.andThen]
  rw[DH] at hl;injection hl with hc _
  injection hc with _ hc
  subst hc;exact jK.symm
 ·have hj:es[j]?=some e0:=by simpa using R
  have yx:es.modify j (λe=>{e with key:=key})=es:=by
   apply Array.ext';rw[Array.toList_modify,modify_eq_set _ _ _ _ R];have:({e0 with key:=key}:MapEntry)=e0:=by rw[<-h3]
   rw[this];exact WideElems.set_self _ _ _ R
  have Sj:(Instr.mapEntry t (.map (some b)) key).run P w=.ok (.tuple #[e0.val,goInt e0.born]) (setBlock w b (.map es clock)):=by
   simp[Instr.mapEntry,kM ht,xy I,aj.check w false jA,F,hj,h3,aj.stays w jA,yx,zQ _ I,Result.andThen,setBlock]
  rw[Sj] at pa;injection pa with _ hw
  subst hw;exact⟨ab,⟨es,clock,heap_setBlock_same I _,aa,Nat.le_succ_of_le hs,hD⟩,rfl⟩
theorem Sk:laidOutB prog=true:=by kernel_rfl
theorem MX:(match prog.underlying 129 with |some (.array _ _)|some (.struct _)=>true|_=>false)=true:=by rw[underlying129]
theorem mR:WideMaps.KeyLaw prog 129:=deep_law_laid Sk (m:=2) (by omega) (eM (by kernel_rfl)) (by kernel_rfl) MX
def ra(x:Int×Int):Lit:=.string (keyBytes [.int .i64 x.1,.int .i64 x.2])
theorem sN{x:Int×Int}(F:(Lit.int .i64 x.1).wf=true)(R:(Lit.int .i64 x.2).wf=true):keyOf prog 129 (.agg #[.int .i64 x.1,.int .i64 x.2])=some (ra x):=by
 have hc:prog.cellsOf 129=2:=by kernel_rfl
 have qX:prog.cellsOf 3=1:=by kernel_rfl
 have Q:prog.keyType 129=true:=by kernel_rfl
 obtain⟨m,hm⟩:∃m,prog.types.size+1=m+2:=⟨prog.types.size-1,by have:0<prog.types.size:=eM (by kernel_rfl);omega⟩;have hf:(Value.agg #[.int .i64 x.1,.int .i64 x.2]).formed prog 129=true:=by simp[Value.formed,underlying129,hc]
 unfold keyOf;rw[underlying129];simp only[Q,hf,Bool.and_true,if_true,hm];simp[Program.keyLits,underlying129,underlying3,hc,qX,Value.cells,F,R,List.range,List.range.loop,ra]
def sO(x:Int×Int):Int×Int:=(x.2,x.1)
theorem Hh(a b:Int)(w:World):Calls prog 40 #[.agg #[.int .i64 a,.int .i64 b]] w λy w'=>y=.returned (.agg #[.int .i64 b,.int .i64 a])/\aY w w':=by
 go_in;go_upto_region 1 with fail
 refine r9 λW0 bt bx J=>?_;have ab:=eE bt bx;go_wp2;refine bL (v:=.agg #[.int .i64 b,.int .i64 a]) (by simp[results,results40,go_sem,ab]) rfl ⟨rfl,aI (by omega) [_,_] 0 _ J⟩
namespace Gr
def re(n:Int)(l:List (Int×Int))(i:Nat):Bool:=match l[i]? with
 |some x=>node n x.1&&(node n x.2&&(!(x.1==x.2)&& !((l.take i).contains x)))
 |none=>true
def right(n:Int)(l:List (Int×Int)):Bool:=
 decide (1<=n)&&(decide (n<=6)&&(decide (l.length<=30)&&((List.range l.length).all (re n l)&&(l.all (λx=>l.contains (sO x))&& !((PF n.toNat l 0).contains (-1))))))
theorem qj{n k:Int}:node n k=true↔0<=k/\k<n:=by unfold node;simp
theorem yy{n:Int}{l:List (Int×Int)}(h:right n l=true):1<=n/\n<=6/\l.length<=30/\(∀x∈l,(0<=x.1/\x.1<n)/\(0<=x.2/\x.2<n)/\x.1≠x.2/\sO x∈l):=by
 unfold right at h;simp only[cQ,dC,eT,ke] at h;obtain⟨F,R,h3,h4,h5,_⟩:=h;refine⟨F,R,h3,λx D=>?_⟩;obtain⟨i,hi,rfl⟩:=m5 D;have h6:=h4 i hi;unfold re at h6;rw[eu hi] at h6;simp only[cQ,nT,beq_eq_false_iff_ne,ne_eq] at h6;have h7:=h5 _ D;exact⟨qj.1 h6.1,qj.1 h6.2.1,h6.2.2.1,by simpa using h7⟩
end Gr
def Vx(x:Int×Int):Prop:=(Lit.int .i64 x.1).wf=true/\(Lit.int .i64 x.2).wf=true
theorem Hi{x y:Int×Int}(D:Vx x)(hy:Vx y)(h:ra x=ra y):x=y:=by
 have:=(Keyed.of_law mR).inj (sN D.1 D.2) (by rw[h];exact sN hy.1 hy.2);injection this with this
 simp at this;exact Prod.ext this.1 this.2
def mg(w:World)(b:Nat)(xs:List (Int×Int)):Prop:=
 ∃(ab:DataW Unit)(n:Nat),w.ownsMap prog 129 (plainElem prog 3) b n ab/\n<=xs.length/\∀s,Vx s->ab.atKey (ra s) (.lit (.int .i64 0))=.lit (.int .i64 (if xs.contains s then 1 else 0))
theorem mg.made(w:World):mg (w.alloc (.map #[] 0)) w.1.size []:=⟨_,0,zY _ _ _ _,by simp,λs _=>rfl⟩
theorem mg.next{w w':World}{b:Nat}{xs:List (Int×Int)}(h:mg w b xs)(I:aY w w'):mg w' b xs:=by
 obtain⟨ab,n,F,R,h3⟩:=h;have:=F.lt;exact⟨ab,n,F.kept (row:=none) ⟨I.os,I.tape,I.output,I.size,λi hi _=>I.block i hi⟩ (by simp),R,h3⟩
instance{w w':World}{b:Nat}{xs:List (Int×Int)}:Nx w w' (mg w b xs) (mg w' b xs):=⟨λq p=>p.next q⟩
theorem mg.put{w1:World}{b:Nat}{xs:List (Int×Int)}{x:Int×Int}{ab:DataW Unit}{n:Nat}(hm:IsMap ab)(hn:n<=xs.length)(hD:∀s,Vx s->ab.atKey (ra s) (.lit (.int .i64 0))=.lit (.int .i64 (if xs.contains s then 1 else 0)))
 (D:Vx x)(F:w1.ownsMap prog 129 (plainElem prog 3) b (n+1) (ab.put (ra x) (.lit (.int .i64 1)))):mg w1 b (xs++[x]):=by
 refine⟨_,n+1,F,by simp;omega,λs hs=>?_⟩;by_cases e:s=x
 ·subst e;rw[zP hm ((Keyed.of_law mR).key (sN D.1 D.2))];simp
 ·rw[EO (λh=>e (Hi hs D h)),hD s hs];simp[e]
theorem DT(w:World):(zeroValue 3).run prog w=.ok (.int .i64 0) w:=by kernel_rfl
theorem sP{n:Int}(h:0<=n)(h':n<=1000000):(Lit.int .i64 n).wf=true:=by
 unfold Lit.wf;rw[cQ];exact⟨cV (Int.le_trans (by decide) h),cV (Int.le_trans h' (by decide))⟩
theorem Km{n:Int}{l:List (Int×Int)}(h:mP (Gr.re n l) l.length):∀x∈l,(0<=x.1/\x.1<n)/\0<=x.2/\x.2<n:=λx D=>by
 obtain⟨i,hi,rfl⟩:=m5 D;have h6:=h i hi;unfold Gr.re at h6;rw[eu hi] at h6;simp only[cQ] at h6;exact⟨Gr.qj.1 h6.1,Gr.qj.1 h6.2.1⟩
theorem Fy{l:List (Int×Int)}{f:Int×Int->Bool}(h:mP (λi=>f (l.getD i (0,0))) l.length):l.all f=true:=eT.2 λx D=>by
 obtain⟨i,hi,rfl⟩:=m5 D;have R:f (l.getD i (0,0))=true:=h i hi;rw[getD_eq (eu hi)] at R;exact R
theorem Vy{l:List (Int×Int)}{f:Int×Int->Bool}{x:Int×Int}{j:Nat}(D:l[j]?=some x)(h:f x=false):l.all f=false:=by
 rw[tF];intro e;rw[eT.1 e x (dV D)] at h;cases h
theorem BB(n:Int)(v:Value)(xs:List (Int×Int))(w:World)(h:aM Y.msg false w 0 w.1.size v xs)(D:xs.length<=1000):
 Calls prog 21 #[.agg #[n,v]] w λy w'=>y=.returned (.bool (Gr.right n xs))/\aY w w':=by
 have Bl:=@run_makeMap prog;obtain⟨A,c,rfl,T8,hm,hA⟩:=id h;unfold maxLen at hm;replace hA:=U hA;have ar:=U h;clear h;go_in;try simp only[List.append_eq,nU,gh]
 go_upto_region 1 with fail
 refine bK λW0 pU=>?_;have bx:=G.eqv pU (G.new _ _ _);have J:=Below.eqv pU (cT.alloc bE _);have Gf:w.1.size<W0.1.size:=bx.lt;clear pU;have DD:=ch bx;by_cases F:n<1
 ·have HN:aK (Gr.right n xs=false):=U (by unfold Gr.right;rw[bZ (by omega:¬1<=n)];rfl);go_wp2;go_ret;exact⟨by rw[HN.Z];rfl,J⟩
 ·by_cases R:n>6
  ·have HN:aK (Gr.right n xs=false):=U (by unfold Gr.right;rw[bZ (by omega:¬n<=6)];simp);go_wp2;go_ret;exact⟨by rw[HN.Z];rfl,J⟩
  ·by_cases h3:(xs.length:Int)>30
   ·have HN:aK (Gr.right n xs=false):=U (by unfold Gr.right;rw[bZ (by omega:¬xs.length<=30)];simp);go_wp2;go_ret;exact⟨by rw[HN.Z];rfl,J⟩
   ·have HG:aK (Gr.right n xs=((List.range xs.length).all (Gr.re n xs)&&(xs.all (λx=>xs.contains (sO x))&& !((Gr.PF n.toNat xs 0).contains (-1))))):=U (by unfold Gr.right;rw[cV (by omega:1<=n),cV (by omega:n<=6),cV (by omega:xs.length<=30)];rfl);go_wp2;clear DD;go_loopg [5,26] xs.length (λq _ i wr=>∃j:Nat,i=.int .i64 (j:Int)/\j<=xs.length/\q=xs.length-j/\mP (Gr.re n xs) j/\mg wr W0.1.size (xs.take j)/\G wr w.1.size #[n,.slice A xs.length c] 24/\aY w wr)
    case atStart=>exact⟨0,rfl,by omega,by omega,λi hi=>absurd hi (jO _),mg.made W0,bx.alloc _,J.alloc J.size _⟩
    case round=>
     clear bx J;obtain⟨j,rfl,hj,Q,hr,hs,bx,J⟩:=hrel;have HR:=U hr;have HK:=U Q;have HSE:=U hs;clear hr Q hs;by_cases bY:j<xs.length
     ·obtain⟨⟨x1,x2⟩,iF⟩:=Pc.get_at bY;obtain⟨gx,o,rfl,_,hg,c0,c1⟩:=(hA.below J bE).msg iF;dsimp only at c0 c1;have gg:gx<wr.1.size:=aU hg J.size;have HL:aK (Gr.re n xs j=(Gr.node n x1&&(Gr.node n x2&&(!(x1==x2)&& !((xs.take j).contains (x1,x2)))))):=U (by unfold Gr.re;rw[iF]);replace iF:=U iF;have DD:=ch bx;go_upto_region 7 with fail
      clear DD;clear c0 c1 gg;refine jt λW1 bl I=>?_;have RA:=U (HSE.next I);clear HSE;refine lW I bx J ?_;clear I bx J;intro _ bx J;have d0:=aD bx 0;have d1:=aD bx 1;simp only[dY,eR,eZ] at d0 d1;have dl:=bx.lt;have e0:=aD bl 0;have e1:=aD bl 1;simp only[dY,eR,eZ] at e0 e1;have el:=bl.lt;go_wp2_with fail;clear d0 d1 dl;clear e0 e1 el;refine(xM n x1 _ _).mono ?_;rintro y w2 ⟨rfl,I⟩;have YC:=U (RA.next I);clear RA;refine iX I bx bl J ?_;clear I bx bl J;intro _ bx bl J;cases q1:Gr.node n x1 with
      |false=>
       have HN:aK (Gr.right n xs=false):=U (by rw[HG.Z,dJ bY (by rw[HL.Z,q1];rfl)];rfl);go_wp2;go_ret;exact⟨by rw[HN.Z];rfl,J⟩
      |true=>
       have d0:=aD bx 0;have d1:=aD bx 1;simp only[dY,eR,eZ] at d0 d1;have dl:=bx.lt;have e0:=aD bl 0;have e1:=aD bl 1;simp only[dY,eR,eZ] at e0 e1;have el:=bl.lt;go_wp2_with fail;clear d0 d1 dl;clear e0 e1 el;refine(xM n x2 _ _).mono ?_;rintro y w3 ⟨rfl,I⟩;have HS3:=U (YC.next I);clear YC;refine iX I bx bl J ?_;clear I bx bl J;intro _ bx bl J;cases q2:Gr.node n x2 with
       |false=>
        have HN:aK (Gr.right n xs=false):=U (by rw[HG.Z,dJ bY (by rw[HL.Z,q1,q2];rfl)];rfl);go_wp2;go_ret;exact⟨by rw[HN.Z];rfl,J⟩
       |true=>
        have DD:=ch bl;by_cases q3:x1=x2
        ·have b3:(x1==x2)=true:=by simpa using q3
         have HN:aK (Gr.right n xs=false):=U (by rw[HG.Z,dJ bY (by rw[HL.Z,q1,q2,b3];rfl)];rfl);clear q3;go_wp2;go_ret;exact⟨by rw[HN.Z];rfl,J⟩
        ·have b3:(x1==x2)=false:=by simpa using q3
         have Rz:=Gr.qj.1 q1;have hw2:=Gr.qj.1 q2;have pV:Vx (x1,x2):=⟨sP Rz.1 (by omega),sP hw2.1 (by omega)⟩;have jA:=sN pV.1 pV.2;obtain⟨ab,nn,cG,hn,hD⟩:=HS3.Z;obtain⟨cc,yz,jK,_⟩:=cG.lookup_int (Keyed.of_law mR) underlying130 underlying3 (DT _) jA;rw[hD _ pV] at jK;replace hD:=U hD;replace cG:=U cG;replace pV:=U pV;replace jA:=U jA;clear q3;dsimp only at yz;cases q4:(xs.take j).contains (x1,x2) with
         |true=>
          rw[q4] at jK;injection jK with jK;injection jK with _ jK
          subst jK;have HN:aK (Gr.right n xs=false):=U (by rw[HG.Z,dJ bY (by rw[HL.Z,q1,q2,b3,q4];rfl)];rfl);go_wp2;go_ret;exact⟨by rw[HN.Z];rfl,J⟩
         |false=>
          rw[q4] at jK;injection jK with jK;injection jK with _ jK
          subst jK;have hY:Gr.re n xs j=true:=by rw[HL.Z,q1,q2,b3,q4];rfl
          change aK _ at hY;go_upto_region 9 with fail
          have Hj:nn<maxLen:=by unfold maxLen;simp at hn;omega
          obtain⟨v0,st,wE,Sj,hgE,hsto⟩:=MW mR underlying130 underlying3 cG.drew Hj DT jA.Z;obtain⟨D1,hownE,hatE⟩:=Fx mR underlying130 underlying3 cG.drew Hj DT jA.Z Sj;obtain⟨cA,hlA,MY,_⟩:=cG.drew.lookup_int (Keyed.of_law mR) underlying130 underlying3 (DT _) jA.Z;obtain⟨cB,hlB,MZ,_⟩:=hownE.lookup_int (Keyed.of_law mR) underlying130 underlying3 (DT _) jA.Z;rw[hatE,hD.Z _ pV.Z,q4] at MZ;rw[hD.Z _ pV.Z,q4] at MY;injection MY with MY;injection MY with _ MY;subst MY
          injection MZ with MZ;injection MZ with _ MZ;subst MZ
          obtain⟨wF,gw,hownF,hgF⟩:=hsto 1 (by decide);have HSF:=U (mg.put cG.isMap hn hD.Z pV.Z hownF);try dsimp only at Sj gw hlA hlB
          have Fz:(Instr.entryStore 130 (.map (some W0.1.size)) (.int .i64 (st:Int)) (.int .i64 1)).run prog wE=.ok () wF:=gw;clear gw;replace hgF:=U hgF;clear hownE hatE hownF hgE hsto Hj yz;have hBF:aY w wF:=J.drew.grown hgF.Z J.size (λk e=>by cases e;omega);have bxF:G wF w.1.size #[n,.slice (some ⟨gx,o,none⟩) xs.length c] 24:=(hgF.block _ bx.lt (by intro e;injection e;omega)).trans bx;have blV:=bl.next (cT.drew);replace hBF:=U hBF;replace bxF:=U bxF;have DD:=ch blV;refine eU 0 (by kernel_rfl) ?_;refine aG [0,1] 5 ?_;go_wp2;clear DD blV;refine wJ 2 4 ?_ ?_;focus
           go_wp2;refine⟨λh=>absurd h (by decide),?_⟩;refine tK 3 ?_;refine aG [4,5,6] 0 ?_
          rotate_left;focus
           go_wp2;refine⟨λh=>absurd h (by decide),?_⟩;refine tK 5 ?_;refine aG [2,3,6] 0 ?_
          all_goals
           go_wp2;refine eJ ?_;go_wp2;go_roundg (xs.length-(j+1))
           case rel=>exact⟨j+1,by simp,by omega,rfl,HR.next hY.Z,by rw[Pc.de iF.Z];exact HSF.Z,bxF.Z,hBF.Z⟩
           case measure=>have:=HK.Z;omega
     ·have jx:j=xs.length:=by omega
      subst jx;have hs:=HSE.Z;rw[iw] at hs;have HAL:=U HR.all;have Ue:=U (Km HR.Z);have HS:=U hs;clear hs HSE HR;have DD:=ch bx;go_wp2;clear DD;have fM:=U J.size;go_loopg [7,65] xs.length (λq _ i wr=>∃j:Nat,i=.int .i64 (j:Int)/\j<=xs.length/\q=xs.length-j/\mP (λi=>xs.contains (sO (xs.getD i (0,0)))) j/\mg wr W0.1.size xs/\G wr w.1.size #[n,.slice A xs.length c] 24/\aY w wr)
      case atStart=>exact⟨0,rfl,by omega,by omega,λi hi=>absurd hi (jO _),HS.Z,bx,J⟩
      case round=>
       clear bx J HS HK;obtain⟨j,rfl,hj,Q,hr,hs,bx,J⟩:=hrel;replace hr:=U hr;change aK _ at Q;replace hs:=U hs;by_cases bY:j<xs.length
       ·obtain⟨⟨x1,x2⟩,iF⟩:=Pc.get_at bY;obtain⟨gx,o,rfl,_,hg,c0,c1⟩:=(hA.below J bE).msg iF;dsimp only at c0 c1;have gg:gx<wr.1.size:=aU hg J.size;have AA:=Ue.Z _ (dV iF);replace iF:=U iF;have DD:=ch bx;go_upto_region 14 with fail
        clear DD;clear c0 c1 gg;refine jt λW1 bl I=>?_;have RA:=U (hs.next I);clear hs;refine lW I bx J ?_;clear I bx J;intro _ bx J;have DD:=ch bl;go_wp2_with fail;clear DD;refine(Hh x1 x2 _).mono ?_;rintro y w2 ⟨rfl,I⟩;have YC:=U (RA.next I);clear RA;replace bx:=bx.next I;replace J:=J.trans (I.mono J.size);clear I bl;have pV:Vx (x2,x1):=by
         have F:=AA.1;have R:=AA.2;try dsimp only at F R
         exact⟨sP R.1 (by omega),sP F.1 (by omega)⟩
        obtain⟨ab,nn,cG,hn,hD⟩:=YC.Z;obtain⟨cc,yz,jK,_⟩:=cG.lookup_int (Keyed.of_law mR) underlying130 underlying3 (DT _) (sN pV.1 pV.2);rw[hD _ pV] at jK;try dsimp only at yz
        clear hD cG hn pV AA;cases q4:xs.contains (x2,x1) with
        |false=>
         rw[q4] at jK;injection jK with jK;injection jK with _ jK;subst jK
         have HN:aK (Gr.right n xs=false):=U (by rw[HG.Z,Vy (f:=λx=>xs.contains (sO x)) iF.Z q4];simp);go_wp2;go_ret;exact⟨by rw[HN.Z];rfl,J⟩
        |true=>
         rw[q4] at jK;injection jK with jK;injection jK with _ jK;subst jK
         have HY:aK ((λi=>xs.contains (sO (xs.getD i (0,0)))) j=true):=U (by show xs.contains (sO (xs.getD j (0,0)))=true;rw[getD_eq iF.Z];exact q4);clear q4;go_wp2;go_roundg (xs.length-(j+1))
         case rel=>exact⟨j+1,by simp,by omega,rfl,hr.next HY.Z,YC.Z,bx,J⟩
         case measure=>have:=Q.Z;omega
       ·have jx:j=xs.length:=by omega
        subst jx;have acN:=U (Fy (f:=λx=>xs.contains (sO x)) hr.Z);obtain⟨N,rfl⟩:∃N:Nat,n=N:=⟨n.toNat,by omega⟩;have DD:=ch bx;go_wp2_with fail;clear DD;refine(MV N 0 _ xs _ ((ar.below J bE).aF bE J.size) D (by omega) (by omega) (λx D=>(Ue x D).2)).mono ?_;rintro y w2 ⟨⟨u,rfl,hu⟩,I⟩;refine Ru I J ?_;clear I J;intro _ J;go_wp2_with fail;refine(gG u (-1) _ _ (hu.aF (fH _) bE)).mono ?_;rintro y w3 ⟨rfl,I⟩;go_wp2;go_ret;exact⟨by rw[HG.Z,HAL.Z,acN.Z,dG];simp,J.trans (I.mono J.size)⟩
end Go.Proofs.YtmgahjkopiaglaaGreat
