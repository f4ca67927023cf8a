/- Lemmas, walks and contracts by which the statement is proved. -/
import Derived.Test.YtmgahjkopiaglaaGreatK31
import Derived.RangeFuncNested
import Derived.RangeFuncBound
import Derived.RangeFuncCalls
import Derived.RangeFuncLeaves
import Derived.Shelf.Abstract
import Derived.Shelf.RegionOpen
import Derived.OwnWalkIn
import Derived.TacticsInMore
import Derived.LoopNIn
import Derived.LoopIn
import Derived.Sort.CutIn
set_option maxRecDepth 100000
set_option maxHeartbeats 16000000
set_option linter.all false
namespace Go.Proofs.YtmgahjkopiaglaaGreat
open Go.RowKit Go.Proofs.Tryz Go.Shelf
section
attribute [local go_sem] Oper.semAt_some
theorem NV{P:Program}{aa:Fence}{n:Nat}{c:Code}{a:Act}{w:World}{ao:Exit->Act->World->Prop}(h:∀W,w=W->Code.wpIn aa n P c ao a W):Code.wpIn aa n P c ao a w:=h w rfl
def K'(a:Ap)(c:Cf)(k:Nat):Int:=(Tb.at_ a.T (k:Int) (c.aL[k]?.getD 0)).mode
def Cr(a:Ap)(c:Cf)(k:Nat):List Int:=(List.range k).map (K' a c)
theorem Ex(a:Ap)(c:Cf)(k:Nat):Cr a c (k+1)=Cr a c k++[K' a c k]:=by unfold Cr;rw[List.range_succ,jP];rfl
theorem ID(a:Ap)(c:Cf)(k:Nat):(Cr a c k).length=k:=by simp[Cr]
theorem Lb(nD mU CV Cb zK:Option Addr)(mV mm AH Cc Cd:Nat)(a:Ap)(c:Cf)(w:World):
 Calls prog 167 #[.agg #[a.n,.slice nD a.az.length mV,.slice mU a.T.length mm,a.bF],.agg #[.slice CV c.aL.length AH,.slice Cb c.az.length Cc,.slice zK c.aQ.length Cd]] w λy w'=>y=.returned (.func (.func 210) #[] #[.pointer (some ⟨w.1.size+1,0,none⟩),.pointer w.1.size])/\G w' w.1.size #[a.n,.slice nD a.az.length mV,.slice mU a.T.length mm,a.bF] 27/\G w' (w.1.size+1) #[.slice CV c.aL.length AH,.slice Cb c.az.length Cc,.slice zK c.aQ.length Cd] 39/\aY w w':=by
 go_in;go_wp2;go_ret;exact⟨rfl,(G.kZ _ _ (by simp)).alloc _,G.kZ _ _ (by simp),(cT.alloc (by first |(simp;done)|(simp;omega)) _).alloc (by first |(simp;done)|(simp;omega)) _⟩
theorem NW(nD mU CV Cb zK:Option Addr)(mV mm AH Cc Cd:Nat)(a:Ap)(c:Cf)(n l g h NY:Nat)(S:Nat->Prop)(hS:∀b,S b->b<NY)(hg:g<NY)(hh:h<NY)(B:Nat)(aq Jx:List Int->World->Prop)(hJ:AbidesFrom B aq)
 (hY:∀pre x W,aq pre W->pre.length<c.aL.length->YieldAt Fence.wide (n-1) prog l #[.int .i64 x] W λe W'=>
  (e=.returned (.bool true)/\aq (pre++[x]) W'/\Below NY W W')\/(e=.returned (.bool false)/\Jx (pre++[x]) W'))
 (hn:1<=n)(W:World)(hW:NY<=W.1.size)(ba:G W g #[a.n,.slice nD a.az.length mV,.slice mU a.T.length mm,a.bF] 27)(bc:G W h #[.slice CV c.aL.length AH,.slice Cb c.az.length Cc,.slice zK c.aQ.length Cd] 39)(CQ:ay Y.int false W S (.slice CV c.aL.length AH) c.aL)(lM:ay Y.eC false W S (.slice mU a.T.length mm) a.T)(h0:aq [] W):
 CallsIn Fence.wide n prog 210 #[.func (.yield l) #[] #[],.pointer h,.pointer g] W λe W'=>(∃v,e=.returned v)/\
  ((∃ys,ys=Cr a c c.aL.length/\aq ys W')\/(∃pre,(∃k,k<=c.aL.length/\pre=Cr a c k)/\Jx pre W')):=by
 have bs0:=CQ.bounds;change aK _ at hS;replace hJ:=U hJ;refine callsIn_of_wp func210 rfl trivial ?_ rfl;simp only[ntmps210,jN,fF,nj,Nat.reduceAdd,Nat.reduceSub,tx,xz,tE,tz,gh,nU];have O:=ch bc
 gi_wp2
 clear O
 gi_loopw [4,5,9] (λ_ _ i wr=>∃k:Nat,k<=c.aL.length/\i=.int .i64 (k:Int)/\aq (Cr a c k) wr/\Below NY W wr) (λ_ _ i _=>c.aL.length-(intOf i).toNat)
 case atStart=>exact⟨0,fH _,rfl,h0,cT⟩
 case round=>
  obtain⟨k,Q,rfl,hJs,NG⟩:=hrel;have ba2:G wr g #[a.n,.slice nD a.az.length mV,.slice mU a.T.length mm,a.bF] 27:=(NG.block g hg).trans ba;have XU:=NG.size;by_cases bY:k<c.aL.length
  case neg=>
   obtain rfl:k=c.aL.length:=by omega
   gi_wp2
   go_end0;exact⟨⟨_,rfl⟩,.inl ⟨_,rfl,hJs⟩⟩
  obtain⟨s,hs⟩:=Pc.get_at bY;have hm:K' a c k=(Tb.at_ a.T (k:Int) s).mode:=by unfold K';rw[hs];rfl
  obtain⟨gs,os,rfl,Fm,c0⟩:=(CQ.arr.aE (dx hS NG)).qW hs;have O:=ch ba2;change aK _ at hm;clear hs
  gi_wp2_with (refine⟨trivial,?_⟩;gi_at_call 100;refine(callsIn_wide.2 (xN (.slice mU a.T.length mm) a.T (k:Int) s wr S (λb q=>aU (hS b q) (bT hW XU)) (lM.aE (dx hS NG)))).mono ?_;rintro _ w5 ⟨rfl,I⟩;obtain⟨fn,tmps,assign,body,hy,hR⟩:=hY _ (Tb.at_ a.T (k:Int) s).mode w5 (hJ _ _ _ none hJs (aT I) (λ_ e=>by cases e)) (by rw[ID];exact bY))
  refine hR.mono ?_;rintro e W3 (⟨rfl,hJ3,xt⟩|⟨rfl,adM⟩)
  ·gi_wp2
   go_roundw
   case rel=>exact⟨k+1,by omega,by simp,by rw[Ex,hm.Z];exact hJ3,(NG.trans (I.mono (by omega))).trans xt⟩
   case measure=>simp[intOf];omega
  ·gi_wp2
   refine bL (results_none rfl _ _ _) rfl ?_;exact⟨⟨_,rfl⟩,.inr ⟨_,⟨k+1,by omega,by rw[Ex,hm.Z]⟩,adM⟩⟩
theorem G.own{W W':World}{b:Nat}{cs:Array Value}{T:TypeId}{row:Option Nat}(h:G W b cs T)(hg:W.grownBy W' row)(hr:∀r,row=some r->∃o:Obj,W.1[r]?=some o/\o.isCells=false):G W' b cs T:=
 h.grown hg λe=>by obtain⟨o,ho,R⟩:=hr b e;rw[show W.1[b]?=_ from h] at ho;cases ho;cases R
theorem IE{w:World}{b:Nat}{v:Value}{T:TypeId}(h:G w b #[v] T):(loadVar 4 ⟨b,0,none⟩).run prog w=.ok v w:=by
 have O:=ch h;simp[go_sem,O]
theorem QK(va vc:Value)(a:Ap)(c:Cf)(w:World)(S:Nat->Prop)(hS:∀b,S b->b<w.1.size)(ha:da Y.ap w S va a)(hc:da Y.cf w S vc c)(hl:c.az.length<=1000)(SW:(c.az.map λl=>(l.length:Int)).sum<=1000000):
 Calls prog 116 #[va,vc] w λy w'=>y=.returned (.bool (V.gJ a c))/\aY w w':=by
 obtain⟨nD,mU,mV,mm,rfl,kX,lM⟩:=ha.ap;obtain⟨CV,Cb,zK,AH,Cc,Cd,rfl,CQ,qX,oW⟩:=hc.cf;change aK _ at hS hl SW;clear ha hc kX oW;refine(callsIn_wide (n:=3)).1 ?_;refine callsIn_of_wp_marks func116 rfl trivial ?_ rfl;simp only[ntmps116,jN,fF,nj,Nat.reduceAdd,Nat.reduceSub,tx,xz,tE,tz,gh,nU]
 gi_upto_region 1 with fail
 refine NV λW1 hW=>?_;have ba:G W1 w.1.size #[a.n,.slice nD a.az.length mV,.slice mU a.T.length mm,a.bF] 27:=G.eqv hW (((G.kZ _ _ (by simp)).alloc _).alloc _);have bc:G W1 (w.1.size+1) #[.slice CV c.aL.length AH,.slice Cb c.az.length Cc,.slice zK c.aQ.length Cd] 39:=G.eqv hW ((G.kZ _ _ (by simp)).alloc _);have bo:G W1 (w.1.size+1+1) #[false] 4:=G.eqv hW (G.kZ _ _ (by simp));have J:aY w W1:=Below.eqv hW (((cT.alloc (by first |(simp;done)|(simp;omega)) _).alloc (by first |(simp;done)|(simp;omega)) _).alloc (by first |(simp;done)|(simp;omega)) _);clear hW;have zl:w.1.size+3<=W1.1.size:=by have:=bo.lt;omega
 have O:=eE ba bc
 gi_wp2_with (refine⟨trivial,?_⟩;gi_at_call 167;refine(callsIn_wide.2 (Lb nD mU CV Cb zK mV mm AH Cc Cd a c W1)).mono ?_;rintro _ w2 ⟨rfl,bm,bn,I⟩)
 clear O ba;replace bc:=bc.next I;replace bo:=bo.next I;have ly:=dW J I;have z2:=I.size;have zn:=bn.lt;refine wpIn_rangeFunc_ownF rfl (by omega) (gf:=210) (lb:=#[.pointer (some ⟨W1.1.size+1,0,none⟩),.pointer W1.1.size]) rfl trivial (enters_of func210 (by kernel_rfl) rfl)
  (encs:=λx:Int=>#[x]) (Kp:=Below w2.1.size) (S:=λxs=>xs=Cr a c c.aL.length) (Sp:=λpre=>∃k,k<=c.aL.length/\pre=Cr a c k) (N:=c.aL.length) (w0:=w2)
  (λl aq Jx W PU hJ hJx hY h0=>NW nD mU CV Cb zK mV mm AH Cc Cd a c _ l W1.1.size (W1.1.size+1) w2.1.size S (λb q=>by have:=hS.Z b q;have:=ly.size;omega) (by omega) (by omega) _ aq Jx hJ hY (by omega) W PU.size (bm.next PU) (bn.next PU) (CQ.aE λb q=>(dW ly PU).block b (hS b q)) (lM.aE λb q=>(dW ly PU).block b (hS b q)) h0)
  belowK_t (belowK_b bE) cT (λ_=>rfl)
  (λpre W=>((∀y∈pre,y=0)/\G W (w.1.size+1+1) #[false] 4/\G W (w.1.size+1) #[.slice CV c.aL.length AH,.slice Cb c.az.length Cc,.slice zK c.aQ.length Cd] 39)/\aY w W)
  (λd pre W=>(d=.ret/\(∃y∈pre,y≠0)/\G W (w.1.size+1+1) #[false] 4)/\aY w W)
  (OwnFrom.and (Own.from (λs A B row hs hg hr=>⟨hs.1,hs.2.1.own hg hr,hs.2.2.own hg hr⟩) _) (ownFrom_below bE (by omega)))
  (λd=>OwnFrom.and (Own.from (λs A B row hs hg hr=>⟨hs.1,hs.2.1,hs.2.2.own hg hr⟩) _) (ownFrom_below bE (by omega)))
  ⟨⟨by simp,bo,bc⟩,ly⟩
  (λx=>{tmps:=#[.agg #[a.n,.slice nD a.az.length mV,.slice mU a.T.length mm,a.bF],.agg #[.slice CV c.aL.length AH,.slice Cb c.az.length Cc,.slice zK c.aQ.length Cd],.pointer w.1.size,.pointer (some ⟨w.1.size+1,0,none⟩),.pointer (some ⟨w.1.size+1+1,0,none⟩),.int .i64 x,.agg #[a.n,.slice nD a.az.length mV,.slice mU a.T.length mm,a.bF],.agg #[.slice CV c.aL.length AH,.slice Cb c.az.length Cc,.slice zK c.aQ.length Cd],.func (.func 210) #[] #[.pointer (some ⟨W1.1.size+1,0,none⟩),.pointer W1.1.size],.int .i64 x,undef,undef,undef,undef,undef],defers:=[]}) ?assign ?body ?done ?stop
 case assign=>
  intro l x W aj hK
  gi_wp2
  exact hK
 case body=>
  rintro l pre x W ⟨⟨hp,b2,b1⟩,pS⟩ _;clear bc bo bm bn;have O:=ch b2
  gi_wp2
  ·rename_i D;exact⟨KeepsOthers.setCell _ _ _,⟨rfl,⟨x,by simp,by simpa using D⟩,b2.bd 0 _⟩,pS.setCell (p:=⟨w.1.size+1+1,0,none⟩) (by simp;omega) _⟩
  ·rename_i D;exact⟨KeepsOthers.refl _,cT,⟨λy hy=>(nf.1 hy).elim (hp y) (λe=>by simp at e;subst e;simpa using D),b2,b1⟩,pS⟩
 case done=>
  rintro ab ys W hD rfl ⟨⟨fg,b2,b1⟩,pS⟩ hK;clear bc bo bm bn;have O:=ch b1
  gi_wp2
  refine⟨trivial,?_⟩;refine(callsIn_wide.2 (SV CV Cb zK c.aL.length AH Cc c.aQ.length Cd c.az W S (j2 hS pS.size) (qX.aE (dx hS pS)) hl.Z SW.Z)).mono ?_;rintro _ w6 ⟨rfl,xZ⟩;obtain⟨oc,of_,ol⟩:=(b2.next xZ).open_
  gi_wp2
  have LY:=pS.trans (xZ.mono pS.size);have Zt:w6.1[ab]?=some (.deferred (some [])):=(xZ.block ab (gm hK)).trans hK;have b6:=b2.next xZ;have hK':=(KeepsOthers.setCell w6 ⟨w.1.size+1+1,0,none⟩ (.bool ((c.az.map λl=>(l.length:Int)).sum==0))).same ab _ Zt rfl;refine⟨by simp,.inl ⟨_,_,rfl,run_takeDeferred hK',?_⟩⟩;have b5:=(b6.bd 0 (.bool ((c.az.map λl=>(l.length:Int)).sum==0))).own (grownBy_putObj' _ ab (.deferred none)) (λr e=>by cases e;exact⟨_,hK',rfl⟩);have ho:V.gJ a c=((c.az.map λl=>(l.length:Int)).sum==0):=by
   unfold V.gJ;have:((List.range c.aL.length).all λi=>(Tb.at_ a.T i (c.aL.getD i 0)).mode==0)=true:=by
    rw[eT];intro q hq;have:=fg (K' a c q) (pR.2 ⟨q,hq,rfl⟩);simpa[K',dB] using this
   rw[this,pP]
  have mJ:=xZ.size;exact⟨.bool ((c.az.map λl=>(l.length:Int)).sum==0),(iL results116 rfl).trans (IE b5),by rw[ho],(LY.setCell (p:=⟨w.1.size+1+1,0,none⟩) (by simp;omega) _).trans (belowK_b (w:=w) bE _ ab _ _ (by have:=ly.size;omega) hK' rfl rfl)⟩
 case stop=>
  rintro ab d pre W hD ⟨k,Q,rfl⟩ ⟨⟨rfl,⟨y,hy,hy0⟩,b2⟩,pS⟩ hK
  gi_wp2
  refine⟨by simp,.inl ⟨_,_,rfl,run_takeDeferred hK,?_⟩⟩;have b5:=b2.own (grownBy_putObj' W ab (.deferred none)) (λr e=>by cases e;exact⟨_,hK,rfl⟩);have ho:V.gJ a c=false:=by
   unfold V.gJ;rw[Bool.and_eq_false_iff];left;rw[List.all_eq_false];unfold Cr at hy;obtain⟨q,hq,rfl⟩:=pR.1 hy;have kr:=ke.1 hq;exact⟨q,ke.2 (by omega),by simpa[K',dB] using hy0⟩
  exact⟨.bool false,(iL results116 rfl).trans (IE b5),by rw[ho],pS.trans (belowK_b (w:=w) bE W ab _ _ (by omega) hK rfl rfl)⟩
end
end Go.Proofs.YtmgahjkopiaglaaGreat
namespace Go.Proofs.YtmgahjkopiaglaaGreat
open Go.RowKit Go.Proofs.Tryz
structure NKg(s:NA)(g:Nat)(w w':World):Prop where
 os:w'.os=w.os
 tape:w'.tape=w.tape
 output:w'.output=w.output
 size:w.1.size<=w'.1.size
 block:∀b,DK w s b->b≠g->w'.1[b]?=w.1[b]?
theorem bU.grown{w w':World}{lo g:Nat}{a:Ap}{t:Nt}{s:NA}(h:bU w lo a t s)(hg:w.grownBy w' (some g))(D:s.ex g)(hd:DK w s g):bU w' lo a t s:=
 have aj:∀b,b<w.1.size->b≠g->w'.1[b]?=w.1[b]?:=λb q r=>hg.block b q λe=>r (by cases e;rfl)
 ⟨(aj _ h.box.lt (fT hd.2.1)).trans h.box,h.lt,λb q=>aU (h.zN b q) hg.size,(h.rA.aE λb q=>q.elim (λq=>aj b q.lt (q.ne D)) λq=>aj b (h.dA q).2.1 λe=>hd.2.2.1 (e▸q)).aF (DS.up hg.size) λb e q=>q.1.2.2.1 e,
  h.rP.aE λb q=>q.elim False.elim λq=>aj b (h.dP q).2.1 λe=>hd.2.2.2.1 (e▸q),(h.rN.aE λb q=>q.elim (λq=>aj b q.lt (q.ne D)) λq=>aj b (h.dN q).2.1 λe=>hd.2.2.2.2 (e▸q)).aF (DS.up hg.size) λb e q=>q.1.2.2.2.2 e,(h.ap.aE λb q=>aj b q.lt (q.ne D)).aF (DS.up hg.size)⟩
structure UL(a:Ap)(ps:List Pc.bG)(N:Nat):Prop where
 hn:a.n=(N:Int)
 n6:N<=6
 L:a.az.length<=1000
 T:Tb.right a.n a.az a.T=true
 tn:(a.T.length:Int)=a.n
 pl:ps.length<=1000000
 E:EdP a (V.build a ps (!a.bF))
 cl:(V.build a ps (!a.bF)).az.length<=1000
 su:((V.build a ps (!a.bF)).az.map λl=>(l.length:Int)).sum<=1000000
theorem Zu(lo:Nat)(a:Ap)(t:Nt)(s:NA)(g N:Nat)(pA qA:Option Addr)(pk qn qk:Nat)(ps:List Pc.bG)(w:World)(hN:bU w lo a t s)(jy:s.ex g)(o7:DK w s g)(XM:lo<=g)(bg:G w g #[aP,aP,aP,aP,aP,aP,aP,aP,(),(),(),(),false,()] 73)(hp:ay Y.piece false w (DS w s) (.slice pA ps.length pk) ps)(hP:UL a ps N):
 Calls prog 83 #[.pointer s.nb,.pointer g,.agg #[.slice pA ps.length pk,.slice qA qn qk]] w λy w'=>y=.returned (.tuple #[])/\bU w' lo a {t with root:=-1} s/\NKg s g w w'/\∃v8 v9 v10 v11 sb,G w' g #[.int .i64 2,t.aC,t.root,aP,aP,aP,aP,aP,v8,v9,v10,v11,.bool (V.gJ a (V.build a ps (!a.bF))),sb] 73/\v8.oneCell'=true/\v9.oneCell'=true/\v10.oneCell'=true/\v11.oneCell'=true/\sb.oneCell'=true:=by
 have bn:=hN.box;have gg:=bg.lt;have hng:=o7.2.1;have hC:=bI lo w;obtain⟨c,hc⟩:=cJ (V.build a ps (!a.bF));obtain⟨ov,SB⟩:=cJ (V.gJ a c);rw[hc,SB];have bbp:=hp.bounds;have hA:=ka w (some g);change aK _ at hc SB;replace hN:=U hN;replace hP:=U hP;replace jy:=U jy;replace o7:=U o7;go_in;go_upto_region 1 with fail
 refine nw λW1 be I=>?_;have uD:w.1.size+1<=W1.1.size:=by have:=be.lt;omega
 replace bn:=bn.next I;replace bg:=bg.next I;replace hA:=aN hA (aT I);replace hC:=Ig hC I;have z1:=I.size;clear I;refine rg 0 λW2 I K=>?_;replace bn:=bn.next I;replace bg:=bg.next I;replace be:=be.next I;replace hA:=aN hA (aT I);replace hC:=Ig hC I;have z2:=I.size;clear I;refine tS 0 ?_;refine tS 1 ?_;refine tS 2 ?_;refine tS 3 ?_;refine tK 4 ?_;refine aG [7] 14 ?_;go_wp2;refine tJ 8 ?_;have O:=iB bn bg be;refine aG [5,6,9,10,11,12,13,14,15,16,17,18,19] 0 ?_;go_wp2;refine fX ?_;clear O;refine cd λW3 hW=>?_;replace bn:=G.eqv hW (((bn.dE (by omega) 0 _).dE (by omega) 1 _).dE (by omega) 2 _);replace bg:=G.eqv hW (((bg.bd 0 _).bd 1 _).bd 2 _);simp only[eX,dK,dR] at bg;replace be:=G.eqv hW (((be.dE (by omega) 0 _).dE (by omega) 1 _).dE (by omega) 2 _);replace hC:=Below.eqv hW (((hC.setCell (by show _<=g;omega) _).setCell (by show _<=g;omega) _).setCell (by show _<=g;omega) _);have z3:W2.1.size+0<=W3.1.size:=hW▸(by simp[World.setCell]);replace hA:w.grownBy W3 (some (g)):=hW▸(aN (aN (aN hA (cU 0 _)) (cU 1 _)) (cU 2 _));clear hW;refine eN ?_;go_wp2;refine rg 8192 λW4 I K=>?_;replace bn:=bn.next I;replace bg:=bg.next I;replace be:=be.next I;replace hA:=aN hA (aT I);replace hC:=Ig hC I;have z4:=I.size;clear I;refine tS 0 ?_;refine tS 1 ?_;refine tK 2 ?_;refine aG [7] 16 ?_;go_wp2;refine tJ 8 ?_;have O:=iB bn bg be;refine aG [3,4,5,6,9,10,11,12] 7 ?_;go_wp2;clear O;refine oJ 13 ?_;go_wp2_with fail;refine(K3 _ a ps pA pk (!a.bF) _ (DS w s) (λb q=>aU q.lt hC.size) (hN.ap.aE λb q=>hA.block b q.lt λe=>absurd (wb e) (q.ne jy.Z)) (hp.aE λb q=>hA.block b q.lt λe=>absurd (wb e) (q.ne jy.Z)) hP.L hP.T hP.tn (by have:=hP.hn;have:=hP.n6;omega)).mono ?_;rintro e w5 ⟨⟨u,e,rfl,hu⟩,I⟩;replace bn:=bn.next I;replace bg:=bg.next I;replace be:=be.next I;replace hA:=aN hA (aT I);replace K:=K.Gt I;replace hC:=Ig hC I;have z5:=I.size;clear I;rw[hc.Z] at hu;obtain⟨CV,Cb,zK,AH,Cc,Cd,rfl,Na,Ed,DU⟩:=hu.cf;have HU:aK (da Y.cf w5 (bO W4.1.size w5.1.size) (.agg #[.slice CV c.aL.length AH,.slice Cb c.az.length Cc,.slice zK c.aQ.length Cd]) c):=U (da.XI Na Ed DU);clear Na Ed DU;have hG:=ka w5 (some g);go_wp2;refine⟨λ_=>K,?_⟩;refine aG [14,15] 4 ?_;go_wp2;refine tJ 17 ?_;refine aG [18] 2 ?_;go_wp2;refine tJ 16 ?_;have O:=iB bn bg be;refine aG [19] 0 ?_;go_wp2;refine fX ?_;clear O;refine cd λW6 hW=>?_;replace bn:=G.eqv hW (((bn.dE (by omega) 8 _).dE (by omega) 9 _).dE (by omega) 10 _);replace bg:=G.eqv hW (((bg.bd 8 _).bd 9 _).bd 10 _);simp only[eX,dK,dR] at bg;replace be:=G.eqv hW (((be.dE (by omega) 8 _).dE (by omega) 9 _).dE (by omega) 10 _);replace hC:=Below.eqv hW (((hC.setCell (by show _<=g;omega) _).setCell (by show _<=g;omega) _).setCell (by show _<=g;omega) _);have z6:w5.1.size+0<=W6.1.size:=hW▸(by simp[World.setCell]);replace hA:w.grownBy W6 (some (g)):=hW▸(aN (aN (aN hA (cU 8 _)) (cU 9 _)) (cU 10 _));replace hG:w5.grownBy W6 (some (g)):=hW▸(aN (aN (aN hG (cU 8 _)) (cU 9 _)) (cU 10 _));clear hW;refine eN ?_;have O:=iB bn bg be;go_wp2_with fail;refine(VR ps pA pk _ (DS w s) (λb q=>aU q.lt hC.size) (hp.aE λb q=>hA.block b q.lt λe=>absurd (wb e) (q.ne jy.Z)) hP.pl).mono ?_;clear O;rintro e w7 ⟨⟨v,rfl,hv⟩,I⟩;replace bn:=bn.next I;replace bg:=bg.next I;replace be:=be.next I;replace hA:=aN hA (aT I);replace hG:=aN hG (aT I);replace hC:=Ig hC I;have z7:=I.size;clear I;obtain⟨vA,vk,rfl,_⟩:=id hv.on;clear hv;have O:=iB bn bg be;go_upto_region 4 with fail
 clear O;refine bK λW8 hW=>?_;replace bn:=G.eqv hW (bn.dE (by omega) 11 _);replace bg:=G.eqv hW (bg.bd 11 _);simp only[eX,dK,dR] at bg;replace be:=G.eqv hW (be.dE (by omega) 11 _);replace hC:=Below.eqv hW (hC.setCell (by show _<=g;omega) _);have z8:w7.1.size+0<=W8.1.size:=hW▸(by simp[World.setCell]);replace hA:w.grownBy W8 (some (g)):=hW▸(aN hA (cU 11 _));replace hG:w5.grownBy W8 (some (g)):=hW▸(aN hG (cU 11 _));clear hW;refine rg 525312 λW9 I K=>?_;replace bn:=bn.next I;replace bg:=bg.next I;replace be:=be.next I;replace hA:=aN hA (aT I);replace hG:=aN hG (aT I);replace hC:=Ig hC I;have z9:=I.size;clear I;refine tS 0 ?_;refine tS 1 ?_;refine tS 2 ?_;refine tS 3 ?_;refine tS 4 ?_;refine tS 6 ?_;refine tS 7 ?_;refine tS 8 ?_;refine tS 11 ?_;refine tK 12 ?_;refine rD [15] 15 ?_;go_wp2;refine iJ ?_;refine tK 16 ?_;have O:=iB bn bg be;refine aG [5,9] 12 ?_;go_wp2;clear O;have O:=iB bn bg be;refine rJ [13,14,17,18] 8 ?_;go_wp2;refine iJ ?_;clear O;refine oN 10 ?_;go_wp2_with fail;refine(QK _ _ a c _ (λb=>DS w s b\/bO W4.1.size w5.1.size b) (λb q=>q.elim (λq=>aU q.lt hC.size) λq=>aU (bO.hi q) hG.size) ((hN.ap.aE λb q=>hA.block b q.lt λe=>absurd (wb e) (q.ne jy.Z)).aF λ_ q=> .inl q) ((HU.Z.aE λb q=>hG.block b (bO.hi q) (λe=>by cases e;have:=bO.lo q;omega)).aF λ_ q=> .inr q) (by have:=hP.cl;rwa[hc.Z] at this) (by have:=hP.su;rwa[hc.Z] at this)).mono ?_;rintro e Ei ⟨rfl,I⟩;replace bn:=bn.next I;replace bg:=bg.next I;replace be:=be.next I;replace hA:=aN hA (aT I);replace hG:=aN hG (aT I);replace K:=K.Gt I;replace hC:=Ig hC I;have z10:=I.size;clear I;rw[SB.Z];go_wp2;refine⟨λ_=>K,?_⟩;refine oN 19 ?_;go_wp2_with fail;refine(Zq _ _ a c N _ (λb=>DS w s b\/bO W4.1.size w5.1.size b) (λb q=>q.elim (λq=>aU q.lt hC.size) λq=>aU (bO.hi q) hG.size) ((hN.ap.aE λb q=>hA.block b q.lt λe=>absurd (wb e) (q.ne jy.Z)).aF λ_ q=> .inl q) ((HU.Z.aE λb q=>hG.block b (bO.hi q) (λe=>by cases e;have:=bO.lo q;omega)).aF λ_ q=> .inr q) (by have:=hP.E;rwa[hc.Z] at this) hP.hn hP.n6).mono ?_;rintro e NZ ⟨⟨kA,kn,kk,rfl⟩,I⟩;replace bn:=bn.next I;replace bg:=bg.next I;replace be:=be.next I;replace hA:=aN hA (aT I);replace hG:=aN hG (aT I);replace K:=K.Gt I;replace hC:=Ig hC I;have z11:=I.size;clear I;go_wp2;refine⟨λ_=>K,?_⟩;have O:=iB bn bg be;refine aG [20,21,22,23,24,25] 0 ?_;go_wp2;refine fX ?_;clear O;refine cd λrq hW=>?_;replace bn:=G.eqv hW ((bn.dE (by omega) 12 _).dE (by omega) 13 _);replace bg:=G.eqv hW ((bg.bd 12 _).bd 13 _);simp only[eX,dK,dR] at bg;replace be:=G.eqv hW ((be.dE (by omega) 12 _).dE (by omega) 13 _);replace hC:=Below.eqv hW ((hC.setCell (by show _<=g;omega) _).setCell (by show _<=g;omega) _);have z12:NZ.1.size+0<=rq.1.size:=hW▸(by simp[World.setCell]);replace hA:w.grownBy rq (some (g)):=hW▸(aN (aN hA (cU 12 _)) (cU 13 _));replace hG:w5.grownBy rq (some (g)):=hW▸(aN (aN hG (cU 12 _)) (cU 13 _));clear hW;refine eN ?_;have zO:=hN.grown hA jy.Z o7.Z;replace zO:=U zO;have O:=iB bn bg be;go_wp2;clear O;go_end0;have cW:bH s.nb rq (rq.setCell ⟨s.nb,8,none⟩ (.int .i64 (-1))):=(bH.refl _ _).bd 8 _;exact⟨rfl,zO.num (t2:={t with root:=-1}) rfl rfl cW (bn.cC 8 _),⟨cW.os.trans hA.os,cW.tape.trans hA.tape,cW.output.trans hA.output,bT hA.size (ca cW.size.symm),λb q r=>(cW.block b q.2.1).trans (hA.block b q.1 λe=>r (by cases e;rfl))⟩,_,_,_,_,_,bg.dE (by omega) 8 _,rfl,rfl,rfl,rfl,rfl⟩
def tg(C:Array Value)(r:V.Rp):Prop:=C.size=14/\C.all (·.oneCell')=true/\∃ro v8 v9 v10 v11 sb,C=#[.int .i64 r.kind,.int .i64 r.aC,.int .i64 ro,.int .i64 r.step.kind,.int .i64 r.step.node,.int .i64 r.step.k,.int .i64 r.step.link,.int .i64 r.step.seq,v8,v9,v10,v11,.bool r.gJ,sb]
theorem Ml(lo:Nat)(a:Ap)(t:Nt)(s:NA)(N:Nat)(x:Wk)(link:Int)(f:Fr)(pA qA fA fB:Option Addr)(pk qk fpn fk fqn fl:Nat)(w:World)(hN:bU w lo a t s)(hp:ay Y.piece false w (DS w s) (.slice pA x.nC.length pk) x.nC)(hq:ay Y.int false w (DS w s) (.slice qA x.pC.length qk) x.pC)(hP:0<x.nC.length->UL a x.nC N):
 Calls prog 56 #[.pointer s.nb,.agg #[.slice pA x.nC.length pk,.slice qA x.pC.length qk],link,.agg #[f.kind,f.aC,f.seq,f.bB,.slice fA fpn fk,f.init,f.num,.int .i64 f.count,.slice fB fqn fl]] w λy w'=>(∃C,y=.returned (.agg C)/\tg C (V.report a t x link f).1)/\bU w' lo a (V.report a t x link f).2 s/\cM s w w':=by
 have iK:=hN.box.lt;have bbp:=hp.bounds;have bbq:=hq.bounds;replace hN:=U hN;change aK _ at hP;go_in;go_upto_block 0 with fail
 refine nW4 λW1 be bf b8 b9 J=>?_;have zl:=b9.lt;obtain⟨s9,qB⟩:∃q:NA,({s with ex:=λb=>s.ex b\/(b=w.1.size+1+1\/b=w.1.size+1+1+1)}:NA)=q:=⟨_,rfl⟩;have Ey:bU W1 lo a t s9:=qB▸hN.lS J _ (λb q=>by rcases q with rfl |rfl<;>omega);have Zv:s9.nb=s.nb:=by rw[<-qB]
 have iF:s9.ex (w.1.size+1+1):=by rw[<-qB];exact .inr (.inl rfl)
 have um:s9.ex (w.1.size+1+1+1):=by rw[<-qB];exact .inr (.inr rfl)
 have hd2:DK W1 s9 (w.1.size+1+1):=by rw[<-qB];exact hN.eP (by omega) (by omega)
 have XV:DK W1 s9 (w.1.size+1+1+1):=by rw[<-qB];exact hN.eP (by omega) (by omega)
 have Gk:∀b,DS w s b->DS W1 s9 b:=λb q=>by rw[<-qB];exact⟨DK.up J.size b q.1,λr=>r.elim q.2 λr=>by have:=q.lt;omega⟩
 have pe:=hN.lt;change aK _ at qB;have UM:=U Ey;replace iF:=U iF;replace um:=U um;have HD2:=U hd2;have HD3:=U XV;change aK _ at Gk;clear Ey hd2 XV;have HBE:=U be;have HBF:=U bf;have N0:=U b8;have HB9:=U b9;have HB:=U J;go_cut [] (λwx=>∃C:Array Value,tg C (V.report a t x link f).1/\G wx (w.1.size+1+1+1) C 73/\G wx (w.1.size+1+1) #[aP,aP,aP,aP,aP,aP,aP,aP,(),(),(),(),false,()] 73/\bU wx lo a (V.report a t x link f).2 s9/\cM s w wx)
 case first=>
  have O2:=ch be;by_cases NK:x.nC.length=0
  case neg=>
   have hp1:0<x.nC.length:=by omega
   have OA:((x.nC.length:Int)>0)=True:=by simp;omega
   have hr:V.report a t x link f=(⟨2,t.aC,V.gJ a (V.build a x.nC (!a.bF)),V.mT⟩,{t with root:=-1}):=by unfold V.report;rw[aS hp1]
   change aK _ at hr hp1;clear NK;go_wp2_with fail;rw[<-Zv];refine(Zu lo a t s9 (w.1.size+1+1+1) N pA qA pk x.pC.length qk x.nC W1 UM.Z um.Z HD3.Z (by omega) b9 ((hp.aE λb q=>J.block b q.lt).aF Gk.Z) (hP hp1.Z)).mono ?_;clear O2;rintro _ w2 ⟨rfl,qv,Gx,v8,v9,v10,v11,sb,j7,o8,o9,o10,o11,o13⟩;have b82:G w2 (w.1.size+1+1) #[aP,aP,aP,aP,aP,aP,aP,aP,(),(),(),(),false,()] 73:=(Gx.block (w.1.size+1+1) HD2.Z (by simp)).trans b8;have wD:cM s w w2:=⟨Gx.os.trans J.os,Gx.tape.trans J.tape,Gx.output.trans J.output,bT J.size Gx.size,λb q=>(Gx.block b (by rw[<-qB.Z];exact DK.up J.size b q) (by have:=q.1;omega)).trans (J.block b q.1)⟩;rw[Zv];go_wp2;go_meet;rw[hr.Z];exact⟨_,⟨rfl,by rw[<-Array.all_toList];simp only[tH,List.all_nil,o8,o9,o10,o11,o13];rfl,_,v8,v9,v10,v11,sb,rfl⟩,j7,b82,qv,wD⟩
  have OA:((x.nC.length:Int)>0)=False:=by rw[NK];simp
  have hp3:¬0<x.nC.length:=by omega
  replace NK:=U NK;by_cases OH:x.pC.length=0
  case neg=>
   have uh:0<x.pC.length:=by omega
   have hr:V.report a t x link f=(⟨3,0,false,V.mT⟩,t):=by unfold V.report;rw[aO (by have:=NK.Z;omega),aS uh]
   change aK _ at hr;obtain⟨q0,hq0e⟩:=Pc.get_at (l:=x.pC) (j:=0) uh;obtain⟨gq,oq,rfl,hgq,c0⟩:=(hq.arr.aE λb q=>J.block b q.lt).qW hq0e;rw[iS] at c0;have gg:=hgq.lt;have kr:((x.pC.length:Int)>0)=True:=by simp;omega
   clear hq0e OH hgq;go_upto_region 6 with fail
   clear O2;refine rg 0 λW3 I K=>?_;replace be:=be.next I;replace b8:=b8.next I;replace b9:=b9.next I;have c1:W3.cell? ⟨gq,oq,none⟩=some (.int .i64 q0):=(dy (I.block gq (by have:=J.size;omega))).trans c0;have fO:=dW J I;have Mm:=UM.next I;have XV:=DK.up I.size _ HD3.Z;have ef:∃C:Array Value,tg C (V.report a t x link f).1/\G (((W3.setCell ⟨w.1.size+1+1+1,0,none⟩ (.int .i64 3)).setCell ⟨w.1.size+1+1+1,2,none⟩ (.int .i64 q0)).setCell ⟨w.1.size+1+1+1,13,none⟩ (.slice (some ⟨gq,oq,none⟩) x.pC.length qk)) (w.1.size+1+1+1) C 73/\G (((W3.setCell ⟨w.1.size+1+1+1,0,none⟩ (.int .i64 3)).setCell ⟨w.1.size+1+1+1,2,none⟩ (.int .i64 q0)).setCell ⟨w.1.size+1+1+1,13,none⟩ (.slice (some ⟨gq,oq,none⟩) x.pC.length qk)) (w.1.size+1+1) #[aP,aP,aP,aP,aP,aP,aP,aP,(),(),(),(),false,()] 73/\bU (((W3.setCell ⟨w.1.size+1+1+1,0,none⟩ (.int .i64 3)).setCell ⟨w.1.size+1+1+1,2,none⟩ (.int .i64 q0)).setCell ⟨w.1.size+1+1+1,13,none⟩ (.slice (some ⟨gq,oq,none⟩) x.pC.length qk)) lo a (V.report a t x link f).2 s9/\cM s w (((W3.setCell ⟨w.1.size+1+1+1,0,none⟩ (.int .i64 3)).setCell ⟨w.1.size+1+1+1,2,none⟩ (.int .i64 q0)).setCell ⟨w.1.size+1+1+1,13,none⟩ (.slice (some ⟨gq,oq,none⟩) x.pC.length qk)):=by
    rw[hr.Z];have cW:bH (w.1.size+1+1+1) W3 (((W3.setCell ⟨w.1.size+1+1+1,0,none⟩ (.int .i64 3)).setCell ⟨w.1.size+1+1+1,2,none⟩ (.int .i64 q0)).setCell ⟨w.1.size+1+1+1,13,none⟩ (.slice (some ⟨gq,oq,none⟩) x.pC.length qk)):=((((bH.refl _ _).bd 0 _).bd 2 _).bd 13 _);refine⟨_,⟨rfl,by simp[Value.oneCell'],q0,_,_,_,_,_,rfl⟩,((b9.cC 0 _).cC 2 _).cC 13 _,b8.only cW (by omega),Mm.OT cW um.Z XV,?_⟩;exact⟨cW.os.trans fO.os,cW.tape.trans fO.tape,cW.output.trans fO.output,bT fO.size (ca cW.size.symm),λb q=>(cW.block b (by have:=q.1;omega)).trans (fO.block b q.1)⟩
   change aK _ at ef;clear Mm K;have O:=eE be b9;refine aG [0,1,2,3,6] 7 ?_;go_wp2;refine tJ 4 ?_;refine tW 5 7 ?_ ?_;all_goals
    go_wp2_with fail;try refine cD (λq=>absurd q (by decide)) ?_
   ·refine aG [7,8,9,10,11] 0 ?_;go_wp2;refine eJ ?_;go_wp2;go_meet;exact ef.Z
   ·refine aG [8] 4 ?_;go_wp2;refine wJ 5 9 ?_ ?_;all_goals
     go_wp2_with fail;try refine cD (λq=>absurd q (by decide)) ?_
    ·refine aG [9,10,11] 0 ?_;go_wp2;refine eJ ?_;go_wp2;go_meet;exact ef.Z
    ·refine aG [5,10,11] 0 ?_;go_wp2;refine eJ ?_;go_wp2;go_meet;exact ef.Z
  have kr:((x.pC.length:Int)>0)=False:=by rw[OH];simp
  have ue:¬0<x.pC.length:=by omega
  replace OH:=U OH;have O:=ch bf;have same:∀r:V.Rp,V.report a t x link f=(r,t)->r=⟨0,0,false,V.mT⟩->(∃C:Array Value,tg C (V.report a t x link f).1/\G W1 (w.1.size+1+1+1) C 73/\G W1 (w.1.size+1+1) #[aP,aP,aP,aP,aP,aP,aP,aP,(),(),(),(),false,()] 73/\bU W1 lo a (V.report a t x link f).2 s9/\cM s w W1):=λr hr hz=>by
   rw[hr];subst hz;exact⟨_,⟨rfl,by simp[Value.oneCell'],0,_,_,_,_,_,rfl⟩,b9,b8,UM.Z,cM.of J⟩
  change aK _ at same;by_cases ma:f.kind=0
  case neg=>
   have uu:(f.kind !=0)=true:=by simpa using ma
   have hr:V.report a t x link f=(⟨0,0,false,V.mT⟩,t):=by unfold V.report;rw[aO (by have:=NK.Z;omega),aO (by have:=OH.Z;omega),aS (.inl ma)]
   change aK _ at hr;clear ma;go_wp2;go_meet;exact same _ hr.Z rfl
  have uu:(f.kind !=0)=false:=by simpa using ma
  by_cases Gs:f.seq=0
  case pos=>
   have j8:(f.seq==0)=true:=by simpa using Gs
   have hr:V.report a t x link f=(⟨0,0,false,V.mT⟩,t):=by unfold V.report;rw[aO (by have:=NK.Z;omega),aO (by have:=OH.Z;omega),aS (.inr Gs)]
   change aK _ at hr;clear Gs ma;go_wp2;go_meet;exact same _ hr.Z rfl
  have j8:(f.seq==0)=false:=by simpa using Gs
  have hr:V.report a t x link f=(⟨1,0,false,⟨1,0,0,link,f.seq⟩⟩,t):=by unfold V.report;rw[aO (by have:=NK.Z;omega),aO (by have:=OH.Z;omega),aO (λq=>q.elim (λq=>q ma) Gs)]
  change aK _ at hr;clear Gs ma;go_upto_region 2 with fail
  clear O2 O uu j8 OA hp3 kr ue;refine rg 0 λW3 I K=>?_;replace bf:=bf.next I;replace b8:=b8.next I;replace b9:=b9.next I;have fO:=dW J I;have Mm:=UM.next I;have XV:=DK.up I.size _ HD3.Z;have ef:∃C:Array Value,tg C (V.report a t x link f).1/\G ((((((W3.setCell ⟨w.1.size+1+1+1,0,none⟩ (.int .i64 1)).setCell ⟨w.1.size+1+1+1,3,none⟩ (.int .i64 1)).setCell ⟨w.1.size+1+1+1,4,none⟩ (.int .i64 0)).setCell ⟨w.1.size+1+1+1,5,none⟩ (.int .i64 0)).setCell ⟨w.1.size+1+1+1,6,none⟩ (.int .i64 link)).setCell ⟨w.1.size+1+1+1,7,none⟩ (.int .i64 f.seq)) (w.1.size+1+1+1) C 73/\G ((((((W3.setCell ⟨w.1.size+1+1+1,0,none⟩ (.int .i64 1)).setCell ⟨w.1.size+1+1+1,3,none⟩ (.int .i64 1)).setCell ⟨w.1.size+1+1+1,4,none⟩ (.int .i64 0)).setCell ⟨w.1.size+1+1+1,5,none⟩ (.int .i64 0)).setCell ⟨w.1.size+1+1+1,6,none⟩ (.int .i64 link)).setCell ⟨w.1.size+1+1+1,7,none⟩ (.int .i64 f.seq)) (w.1.size+1+1) #[aP,aP,aP,aP,aP,aP,aP,aP,(),(),(),(),false,()] 73/\bU ((((((W3.setCell ⟨w.1.size+1+1+1,0,none⟩ (.int .i64 1)).setCell ⟨w.1.size+1+1+1,3,none⟩ (.int .i64 1)).setCell ⟨w.1.size+1+1+1,4,none⟩ (.int .i64 0)).setCell ⟨w.1.size+1+1+1,5,none⟩ (.int .i64 0)).setCell ⟨w.1.size+1+1+1,6,none⟩ (.int .i64 link)).setCell ⟨w.1.size+1+1+1,7,none⟩ (.int .i64 f.seq)) lo a (V.report a t x link f).2 s9/\cM s w ((((((W3.setCell ⟨w.1.size+1+1+1,0,none⟩ (.int .i64 1)).setCell ⟨w.1.size+1+1+1,3,none⟩ (.int .i64 1)).setCell ⟨w.1.size+1+1+1,4,none⟩ (.int .i64 0)).setCell ⟨w.1.size+1+1+1,5,none⟩ (.int .i64 0)).setCell ⟨w.1.size+1+1+1,6,none⟩ (.int .i64 link)).setCell ⟨w.1.size+1+1+1,7,none⟩ (.int .i64 f.seq)):=by
   rw[hr.Z];have cW:bH (w.1.size+1+1+1) W3 ((((((W3.setCell ⟨w.1.size+1+1+1,0,none⟩ (.int .i64 1)).setCell ⟨w.1.size+1+1+1,3,none⟩ (.int .i64 1)).setCell ⟨w.1.size+1+1+1,4,none⟩ (.int .i64 0)).setCell ⟨w.1.size+1+1+1,5,none⟩ (.int .i64 0)).setCell ⟨w.1.size+1+1+1,6,none⟩ (.int .i64 link)).setCell ⟨w.1.size+1+1+1,7,none⟩ (.int .i64 f.seq)):=((((((bH.refl _ _).bd 0 _).bd 3 _).bd 4 _).bd 5 _).bd 6 _).bd 7 _;refine⟨_,⟨rfl,by simp[Value.oneCell'],0,_,_,_,_,_,rfl⟩,(((((b9.cC 0 _).cC 3 _).cC 4 _).cC 5 _).cC 6 _).cC 7 _,b8.only cW (by omega),Mm.OT cW um.Z XV,?_⟩;exact⟨cW.os.trans fO.os,cW.tape.trans fO.tape,cW.output.trans fO.output,bT fO.size (ca cW.size.symm),λb q=>(cW.block b (by have:=q.1;omega)).trans (fO.block b q.1)⟩
  change aK _ at ef;clear Mm K;have O:=eE bf b9;refine aG [5] 8 ?_;go_wp2;refine sJ 0 ?_;refine tS 1 ?_;refine tK 2 ?_;refine tW 3 6 ?_ ?_;all_goals
   go_wp2_with fail;try refine cD (λq=>absurd q (by decide)) ?_
  ·refine tK 4 ?_;refine aG [6,7,8] 0 ?_;go_wp2;refine eJ ?_;go_wp2;go_meet;exact ef.Z
  ·refine aG [3,4,7,8] 0 ?_;go_wp2;refine eJ ?_;go_wp2;go_meet;exact ef.Z
 case rest=>
 obtain⟨C,⟨sC,oC,hC⟩,b9,b8,Ey,hK⟩:=hcut;obtain⟨W,rfl⟩:∃W,W=wc:=⟨_,rfl⟩;have hd2:DK W s9 (w.1.size+1+1):=⟨b8.lt,HD2.2⟩;go_wp2_with (first |refine wpList_load_mid rfl 73 (.tmp 9) rfl (w.1.size+1+1+1) 0 rfl C.toList _ (b9.bO (n:=14) (by rw[<-sC];simp)) underlying73 rfl (by rw[eK,sC];kernel_rfl) ?_|(refine wpList_store_mid rfl 73 (.tmp 8) (.tmp 49) rfl (w.1.size+1+1) 0 C rfl rfl (b8.cR sC.symm) (by rw[sC];kernel_rfl) oC ?_;rw[aH]));have b82:=b8.cm C (by rw[sC];rfl);have cW:bH (w.1.size+1+1) W (cz W (w.1.size+1+1) 0 C.toList):=dQ _ _ _;refine bL (v:=.agg C) ((iL results56 rfl).trans (b82.ju 73 _ underlying73 rfl (by rw[sC];kernel_rfl))) rfl ?_;refine⟨⟨C,rfl,sC,oC,hC⟩,?_,⟨cW.os.trans hK.os,cW.tape.trans hK.tape,cW.output.trans hK.output,bT hK.size (ca cW.size.symm),λb q=>(cW.block b (by have:=q.1;omega)).trans (hK.block b q)⟩⟩;have:=Ey.OT cW iF.Z hd2;rw[<-qB.Z] at this;exact this.drop
end Go.Proofs.YtmgahjkopiaglaaGreat
