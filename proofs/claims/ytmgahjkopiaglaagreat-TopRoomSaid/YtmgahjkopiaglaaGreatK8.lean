/- Lemmas, walks and contracts by which the statement is proved. -/
import Derived.Test.YtmgahjkopiaglaaGreatK7
import Derived.ChangeKeysEq
set_option maxRecDepth 100000
set_option maxHeartbeats 16000000
set_option linter.all false
namespace Go.Proofs.YtmgahjkopiaglaaGreat
open Go.RowKit Go.Proofs.Tryz
theorem aM.Ar{α:Type}{r:Y α}{fr:Bool}{w:World}{lo hi n c:Nat}{A:Option Addr}{xs:List α}(h:aM r fr w lo hi (.slice A n c) xs):xs.length<=c:=by
 obtain⟨_,_,he,F,_⟩:=h;cases he;exact F
theorem Fl{P:Program}{w:World}{ops:Array Oper}{rest:List Oper}{o:Oper}{a:Act}{ao:Exit->Act->World->Prop}(o7:o.guard=none)(x lo:Operand)(t e:TypeId)(ho:o.op=.slice t x (some lo) none none)(ht:P.underlying t=some (.slice e))(size:Nat)(fM:(P.info? e).map (·.size)=some size)
 (g q n c k:Nat)(z:Int)(D:a.eval x=.slice (some ⟨g,q,none⟩) n c)(pe:a.eval lo=.int .i64 z)(hz:z=(k:Int))(Q:k<=n)
 (h:∀AV,AV=(if c=k then some (⟨g,q,none⟩:Addr) else some ⟨g,q+k * size,none⟩)->wpList P ops ao rest (a.put o.dst (.slice AV (n-k) (c-k))) w):wpList P ops ao (o::rest) a w:=by
 subst hz;refine px o7 λaj hK=>?_;have he:P.elem t=e:=by simp[Program.elem,ht]
 have hr:=run_slice_l (P:=P) (w:=w) t (some ⟨g,q,none⟩) n c (by rw[he];exact ht) .i64 (k:Int) (by omega) (by omega);have ug:=(run_sliceAt_slice (P:=P) (w:=w) t (.slice (some ⟨g,q,none⟩) n c) (some (.int .i64 k)) none none (by rw[he];exact ht)).trans hr;cases hq:P.info? e with
 |none=>simp[hq] at fM
 |some i=>
  have hi:i.size=size:=by simpa[hq] using fM
  unfold Oper.wp;simp[execOp,ho,D,pe,ug,he,sizeOf,typeInfo,hq,hi,sliced,Result.andThen];exact hK _ _ (h _ (by split<;>simp[Addr.add_lit]))
section
variable{P:Program}{ao:Exit->Act->World->Prop}{md:Region.Mode}
def jU(P:Program)(md:Region.Mode)(M:Nat)(wM:World)(l:List Oper)(Inv:Nat->Act->World->Prop):List Nat->Prop
 |[]=>True
 |j::t=>(∀m a w,m.testBit j=false->(l.map (bW md)).getD j 0&&& m=(l.map (bW md)).getD j 0->Inv m a w->
  wpList P l.toArray (dI λa w=>(M.testBit j=true->Ext wM w)/\Inv (m|||2^j) a w) [l.getD j default] a w)/\jU P md M wM l Inv t
theorem iA{M:Nat}{wM:World}{l:List Oper}{Inv:Nat->Act->World->Prop}:jU P md M wM l Inv []:=trivial
theorem aZ{M:Nat}{wM:World}{l:List Oper}{Inv:Nat->Act->World->Prop}{j:Nat}{t:List Nat}(h:∀m a w,m.testBit j=false->(l.map (bW md)).getD j 0&&& m=(l.map (bW md)).getD j 0->Inv m a w->
 wpList P l.toArray (dI λa w=>(M.testBit j=true->Ext wM w)/\Inv (m|||2^j) a w) [l.getD j default] a w) (ht:jU P md M wM l Inv t):jU P md M wM l Inv (j::t):=⟨h,ht⟩
theorem jU.get{M:Nat}{wM:World}{l:List Oper}{Inv:Nat->Act->World->Prop}:∀ {S:List Nat},jU P md M wM l Inv S->∀j∈S,∀m a w,m.testBit j=false->(l.map (bW md)).getD j 0&&& m=(l.map (bW md)).getD j 0->Inv m a w->
 wpList P l.toArray (dI λa w=>(M.testBit j=true->Ext wM w)/\Inv (m|||2^j) a w) [l.getD j default] a w:=by
 intro S;induction S with
 |nil=>intro _ j hj;cases hj
 |cons i t ih=>
  intro h j hj;rcases jQ.1 hj with rfl |hj
  ·exact h.1
  ·exact ih h.2 j hj
theorem j3(S:List Nat)(J2:Nat){M:Nat}{wM:World}{l:List Oper}(Inv:Nat->Act->World->Prop)(iu:et l=true)(hS:(S.all λj=>decide (j<l.length))=true)
 (Vk:jU P md M wM l Inv S)
 (LQ:Nat)(J4:∀a w,Inv J2 a w->aV P md l.toArray ao M wM LQ (dH l.length J2) a w):
 ∀(k m:Nat)(a:Act)(w:World),Aq (l.map (bW md)) S J2 k m=true->Inv m a w->aV P md l.toArray ao M wM (LQ+k) (dH l.length m) a w:=by
 have wO:=Vk.get;intro k;induction k with
 |zero=>
  intro m a w iZ hi;obtain rfl:m=J2:=by simpa[Aq] using iZ
  exact J4 a w hi
 |succ k ih=>
  intro m a w iZ hi;simp only[Aq,cQ,nT,eT] at iZ;obtain⟨fz,fg⟩:=iZ;refine l7 (rs:=ff m (l.map (bW md)) 0) (jg l m iu) (by intro e;rw[e] at fz;simp at fz) (λj hj=>?_);obtain⟨hjS,hok'⟩:=fg j hj;have Yn:j∈S:=by simpa using hjS
  obtain⟨q,em,hq,hem,lZ,hdep⟩:=J3 _ _ _ _ hj;have hqj:q=j:=by omega
  subst hqj;have wC:q<l.length:=eM ((eT.1 hS) q Yn);have Mv:(l.map (bW md)).getD q 0=em:=by rw[List.getD,hem];rfl
  have h:=wO q Yn m a w lZ (by rw[Mv];exact hdep) hi;have h':=pZ l [q] a w (by simp[wC]) h;rw[tM] at h';rw[pY _ _ _ wC];exact mD (λa' w' hh=>⟨hh.1,ih _ a' w' hok' hh.2⟩) (qP h')
end
theorem aW{m i j:Nat}(h:i≠j):(m|||2^j).testBit i=m.testBit i:=by
 rw[pO,si];simp[fT h]
theorem kI{m j:Nat}:(m|||2^j).testBit j=true:=by
 rw[pO,si];simp
theorem dt{m i j:Nat}{φ:Prop}(fz:i≠j)(h:dw m i φ):dw (m|||2^j) i φ:=h.other fz (λh=>h)
structure om(W:World)(S:Nat->Prop)(N:Nat)(fi:Bool)(cp:Int)(CL FV:Array Value)(s1 s2:Value)(ys:List Fr)(m:Nat)(x:World)(u6 u8 At xq yX:Value):Prop where
 h6:dw m 6 (u6=.bool fi)
 h8:dw m 8 (u8=.int .i64 cp)
 Vl:dw m 18 (∃g,At=.slice (some ⟨g,0,none⟩) 2 2/\N+1+1<g/\x.1[g]?=some (.cells #[s1,s2] 103 (0,0)))
 OC:dw m 19 (∃cells,x.ownsRow (N+1+1+1) 149 9 xq ys.length cells/\Y.frame.all false x S cells ys)
 hS:∀b,S b->b<N
 bx:G x N CL 105
 b4:m.testBit 21=false->G x (N+1) #[aP,aP,aP,aP,(),aP,aP,aP,()] 149
 Vm:dw m 21 (G x (N+1) FV 149)
 b5:G x (N+1+1) #[false,aP,()] 105
 J:Below N W x
 ext:m.testBit 21=false->Ext W x
 ord:m.testBit 21=true->m.testBit 19=true
 Xu:dw m 20 (yX=.agg #[fi,cp,xq])
 MK:m.testBit 20=true->m.testBit 19=true
section
variable{W:World}{S:Nat->Prop}{N:Nat}{fi:Bool}{cp:Int}{CL FV:Array Value}{s1 s2:Value}{ys:List Fr}{m:Nat}{x y:World}{u6 u8 At xq yX:Value}
theorem om.xI(h:om W S N fi cp CL FV s1 s2 ys m x u6 u8 At xq yX):om W S N fi cp CL FV s1 s2 ys (m|||2^6) x (.bool fi) u8 At xq yX:=
 ⟨dw.now rfl,dt (by decide) h.h8,dt (by decide) h.Vl,dt (by decide) h.OC,h.hS,h.bx,by rw[aW (by decide)];exact h.b4,dt (by decide) h.Vm,h.b5,h.J,by rw[aW (by decide)];exact h.ext,by rw[aW (by decide),aW (by decide)];exact h.ord,dt (by decide) h.Xu,by rw[aW (by decide),aW (by decide)];exact h.MK⟩
theorem om.eight(h:om W S N fi cp CL FV s1 s2 ys m x u6 u8 At xq yX):om W S N fi cp CL FV s1 s2 ys (m|||2^8) x u6 (.int .i64 cp) At xq yX:=
 ⟨dt (by decide) h.h6,dw.now rfl,dt (by decide) h.Vl,dt (by decide) h.OC,h.hS,h.bx,by rw[aW (by decide)];exact h.b4,dt (by decide) h.Vm,h.b5,h.J,by rw[aW (by decide)];exact h.ext,by rw[aW (by decide),aW (by decide)];exact h.ord,dt (by decide) h.Xu,by rw[aW (by decide),aW (by decide)];exact h.MK⟩
theorem om.move(h:om W S N fi cp CL FV s1 s2 ys m x u6 u8 At xq yX)(I:aY x y):om W S N fi cp CL FV s1 s2 ys m y u6 u8 At xq yX:=by
 have hN:N<=x.1.size:=Nat.le_of_lt h.bx.lt;refine⟨h.h6,h.h8,h.Vl.imp ?_,h.OC.imp ?_,h.hS,h.bx.next I,λq=>(h.b4 q).next I,h.Vm.imp λq=>q.next I,h.b5.next I,h.J.trans (I.mono hN),λq=>(h.ext q).trans (Ext.below I bE),h.ord,h.Xu,h.MK⟩
 ·rintro⟨g,e,k1,k2⟩;exact⟨g,e,k1,(I.block g (gm k2)).trans k2⟩
 ·rintro⟨cells,k1,k2⟩;exact⟨cells,mK k1 (λb _ q=>I.block b q),Y.ej (λb q=>I.block b (aU (h.hS b q) hN)) k2⟩
theorem om.build(h:om W S N fi cp CL FV s1 s2 ys m x u6 u8 At xq yX):om W S N fi cp CL FV s1 s2 ys (m|||2^18) (x.alloc (.cells #[s1,s2] 103)) u6 u8 (.slice x.1.size 2 2) xq yX:=by
 have h':=h.move (y:=x.alloc (.cells #[s1,s2] 103)) (cT.alloc bE _);exact⟨dt (by decide) h'.h6,dt (by decide) h'.h8,dw.now ⟨_,rfl,h.b5.lt,np _ _⟩,dt (by decide) h'.OC,h'.hS,h'.bx,by rw[aW (by decide)];exact h'.b4,dt (by decide) h'.Vm,h'.b5,h'.J,by rw[aW (by decide)];exact h'.ext,by rw[aW (by decide),aW (by decide)];exact h'.ord,dt (by decide) h'.Xu,by rw[aW (by decide),aW (by decide)];exact h'.MK⟩
theorem om.call(h:om W S N fi cp CL FV s1 s2 ys m x u6 u8 At xq yX)(I:aY x y){cells:List Value}{u:Value}(F:y.ownsRow x.1.size 149 9 u ys.length cells)(R:Y.frame.all false y S cells ys)(iK:m.testBit 19=false):om W S N fi cp CL FV s1 s2 ys (m|||2^19) y u6 u8 At u yX:=by
 have h':=h.move I;exact⟨dt (by decide) h'.h6,dt (by decide) h'.h8,dt (by decide) h'.Vl,dw.now ⟨cells,wv F h.b5.lt,R⟩,h'.hS,h'.bx,by rw[aW (by decide)];exact h'.b4,dt (by decide) h'.Vm,h'.b5,h'.J,by rw[aW (by decide)];exact h'.ext,λ_=>kI,dw.none (by rw[aW (by decide)];cases q:m.testBit 20 with |false=>rfl |true=>have e:=h.MK q;rw[iK] at e;cases e),λ_=>kI⟩
theorem om.Vn(h:om W S N fi cp CL FV s1 s2 ys m x u6 u8 At xq yX)(OC:m.testBit 19=true):om W S N fi cp CL FV s1 s2 ys (m|||2^20) x u6 u8 At xq (.agg #[fi,cp,xq]):=
 ⟨dt (by decide) h.h6,dt (by decide) h.h8,dt (by decide) h.Vl,dt (by decide) h.OC,h.hS,h.bx,by rw[aW (by decide)];exact h.b4,dt (by decide) h.Vm,h.b5,h.J,by rw[aW (by decide)];exact h.ext,by rw[aW (by decide),aW (by decide)];exact h.ord,dw.now rfl,λ_=>by rw[aW (by decide)];exact OC⟩
theorem om.store(h:om W S N fi cp CL FV s1 s2 ys m x u6 u8 At xq yX)(Q:∀k,k≠N+1->y.1[k]?=x.1[k]?)(h4:G y (N+1) FV 149)(I:Below N x y)(OC:m.testBit 19=true):om W S N fi cp CL FV s1 s2 ys (m|||2^21) y u6 u8 At xq yX:=by
 refine⟨dt (by decide) h.h6,dt (by decide) h.h8,dt (by decide) (h.Vl.imp ?_),dt (by decide) (h.OC.imp ?_),h.hS,(Q _ (by omega)).trans h.bx,λq=>?_,dw.now h4,(Q _ (by omega)).trans h.b5,h.J.trans I,λq=>?_,λ_=>by rw[aW (by decide)];exact OC,dt (by decide) h.Xu,by rw[aW (by decide),aW (by decide)];exact h.MK⟩
 ·rintro⟨g,e,k1,k2⟩;exact⟨g,e,k1,(Q g (by omega)).trans k2⟩
 ·rintro⟨cells,k1,k2⟩;exact⟨cells,mK k1 (λb q _=>Q b (by omega)),Y.ej (λb q=>Q b (by have:=h.hS b q;omega)) k2⟩
 ·rw[kI] at q;cases q
 ·rw[kI] at q;cases q
end
theorem Ps{w:World}{B size n:Nat}{e:TypeId}{v:Value}{cells:List Value}(h:w.ownsRow B e size v n cells):∃A c,v=.slice A n c:=by
 rcases h.2 with⟨rfl,h4⟩|⟨g,cap,cur,rfl,_⟩
 ·exact⟨none,0,by rw[h4]⟩
 ·exact⟨_,_,rfl⟩
theorem G6(S:Nat->Prop)(g n1 n2:Nat)(A1 A2:Option Addr)(c1 c2:Nat)(xs ys:List Fr)(w:World)(hS:∀b,S b->b<w.1.size)(e1:n1=xs.length)(e2:n2=ys.length)(F:ay Y.frame false w S (.slice A1 n1 c1) xs)(R:ay Y.frame false w S (.slice A2 n2 c2) ys)
 (ct:w.1[g]?=some (.cells #[.slice A1 n1 c1,.slice A2 n2 c2] 103 (0,0)))(hn:xs.length+ys.length<=1000000):Calls prog 80 #[.slice g 2 2] w
 λy w'=>(∃u cells,y=.returned u/\w'.ownsRow w.1.size 149 9 u (xs++ys).length cells/\Y.frame.all false w' S cells (xs++ys))/\aY w w':=by
 subst e1 e2;exact Fk S g A1 A2 c1 c2 xs ys w hS F R ct hn
theorem jC.own{W ax:World}{S:Nat->Prop}{N B n uc:Nat}{UA:Option Addr}{cells:List Value}{a:La}(ho:W.ownsRow B 149 9 (.slice UA n uc) a.l.length cells)(hr:Y.frame.all false W S cells a.l)(hN:N<=B)(hz:ax.1.size=W.1.size)(Q:∀b,S b\/B<=b->ax.1[b]?=W.1[b]?):
 jC ax S N (.agg #[a.bF,a.cap,.slice UA n uc]) a:=by
 have hs:ay Y.frame false W (GY S B W.1.size) (.slice UA n uc) a.l:=ay.ie (r:=Y.frame) ho (Y.jw (λb I=> .inl I) hr) (λb I=> .inr (ho.lt b I));obtain⟨A,c,he,_⟩:=id hs;injection he with e1 e2 e3
 subst e1 e2 e3;refine⟨_,_,rfl,(hs.aE λb I=>Q b (I.imp id λq=>q.1)).aF λb I=>I.imp id λq=>⟨bT hN q.1,by rw[hz];exact q.2⟩,λh0=>?_⟩;rcases ho.2 with⟨_,F⟩|⟨g,cap,cur,he,I,hg,F,R,h3,h4⟩
 ·omega
 ·injection he with e1 e2 e3
  subst e1 e3;exact⟨g,cur,rfl,by omega,(Q g (.inr I)).trans hg,by rw[h3];exact vX _ F⟩
theorem J5(v:Value)(fi:Bool)(cp:Int)(l:List Fr)(i:Nat)(w:World)(S:Nat->Prop)(hS:∀b,S b->b<w.1.size)(h:kz w S v ⟨fi,cp,l⟩)(hn:l.length<=1000000)(bY:i<l.length)(hf:fi=true->i=0):Calls prog 54 #[v,.int .i64 i] w
 λy w'=>(∃p u,y=.returned (.tuple #[p,u,aP])/\nt false w' S p (l.getD i Fr.zero)/\jC w' S w.1.size u (La.less ⟨fi,cp,l⟩ i))/\aY w w':=by
 obtain⟨A,c,he,F⟩:=h;dsimp only at he F;subst he;have hl:=(F.og hS).kh;have J6:l.length<=c:=(F.og hS).Ar;change aK _ at hS;go_in;go_upto_region 1 with fail
 refine OB λW0 bx b4 b5 J=>?_;have CI:¬((i:Int)<0):=by omega
 have Xv:¬((i:Int)>=(l.length:Int)):=by omega
 have T7:(i:Int)<=(c:Int):=by omega
 have hi3:(i:Int)+1<=(l.length:Int):=by omega
 have hi4:((i:Int)+1).toNat=i+1:=by omega
 have hi5:(0:Int)<=(i:Int)+1:=by omega
 have qy:=bx.lt;replace J:=U J;obtain⟨d0,d1,d2⟩:=bP bx;go_cut [23] (λu wx=>u=.bool false/\wx=W0)
 case first=>
  cases fi with
  |false=>
   go_wp2;go_meet;exact⟨rfl,rfl⟩
  |true=>
   have q:¬((i:Int)>0):=by have:=hf rfl;omega
   have q3:decide (0<i)=false:=by simpa using hf rfl
   change aK _ at q3;clear hf;go_wp2;go_meet;exact⟨by first |rfl |rw[q3.Z],rfl⟩
 case rest=>
  obtain⟨rfl,rfl⟩:=hcut;obtain⟨W,rfl⟩:∃W:World,W=wc:=⟨_,rfl⟩;clear d0 d1 d2;go_upto_region 3 with fail
  obtain⟨x,D⟩:=Pc.get_at bY;have hs:=F.aE (λb q=>J.block b (hS.Z b q));obtain⟨g,o,pA,pB,pk,pl,he,Fm,hc,hp⟩:=hs.arr.frame D;subst he;have hgp:g<w.1.size:=hS g Fm;clear Fm;have c0:=hc 0 _ rfl;have c1:=hc 1 _ rfl;have c2:=hc 2 _ rfl;have c3:=hc 3 _ rfl;have c4:=hc 4 _ rfl;have c5:=hc 5 _ rfl;have c6:=hc 6 _ rfl;have c7:=hc 7 _ rfl;have c8:=hc 8 _ rfl;simp only[iS] at c0;replace D:=U D;replace hs:=U hs;replace hp:=U hp;clear F hc;have bxd:=bx.next (cT.drew);have b4d:=b4.next (cT.drew);have b5d:=b5.next (cT.drew);have HBd:=U J.drew;have K:=Ext.refl W.drew;clear bx b4 b5;obtain⟨d0,d1,d2⟩:=bP bxd;refine eU 524288 (by kernel_rfl) ?_;refine aG [15] 23 ?_;go_wp2;refine tJ 16 ?_;refine aG [9,10,11,12,13,14] 16 ?_;go_wp2;refine aJ [17] 15 ?_;go_wp2_with (refine Fl rfl (.tmp 40) (.tmp 42) 103 149 rfl underlying103 9 (by kernel_rfl) g o l.length c (i+1) _ rfl rfl (by simp) bY ?_;intro AV hAV;have HAV:=U hAV;clear hAV);refine rJ [0,1,2,3,4] 10 ?_;go_wp2;refine iJ ?_;refine tK 5 ?_;refine tK 7 ?_;clear c0 c1 c2 c3 c4 c5 c6 c7 c8;clear d0 d1 d2;refine qe λA0 gD=>?_;have hT:om W.drew S w.1.size fi cp #[fi,cp,.slice (some ⟨g,o,none⟩) l.length c] #[x.kind,x.aC,x.seq,x.bB,.slice pA x.pieces.length pk,x.init,x.num,.int .i64 x.count,.slice pB x.path.length pl] (.slice (some ⟨g,o,none⟩) i c) (.slice AV (l.length-(i+1)) (c-(i+1))) (l.take i++l.drop (i+1)) 261823 W.drew (A0.tmps.getD 32 undef) (A0.tmps.getD 34 undef) (A0.tmps.getD 44 undef) (A0.tmps.getD 45 undef) (A0.tmps.getD 46 undef):=⟨dw.none (by kernel_rfl),dw.none (by kernel_rfl),dw.none (by kernel_rfl),dw.none (by kernel_rfl),hS.Z,bxd,λ_=>b4d,dw.none (by kernel_rfl),b5d,cT,λ_=>Ext.refl _,λh=>absurd h (by decide),dw.none (by kernel_rfl),λh=>absurd h (by decide)⟩;clear bxd b4d b5d K;refine j3 [6,8,18,19,20,21] 4194303 (λm a y=>∃u6 u8 At xq yX:Value,a=(((((A0).put (some 32) u6).put (some 34) u8).put (some 44) At).put (some 45) xq).put (some 46) yX/\om W.drew S w.1.size fi cp #[fi,cp,.slice (some ⟨g,o,none⟩) l.length c] #[x.kind,x.aC,x.seq,x.bB,.slice pA x.pieces.length pk,x.init,x.num,.int .i64 x.count,.slice pB x.path.length pl] (.slice (some ⟨g,o,none⟩) i c) (.slice AV (l.length-(i+1)) (c-(i+1))) (l.take i++l.drop (i+1)) m y u6 u8 At xq yX) (by kernel_rfl) (by kernel_rfl) ?_ 2 ?_ 6 261823 _ _ (by kernel_rfl) ⟨A0.tmps.getD 32 undef,A0.tmps.getD 34 undef,A0.tmps.getD 44 undef,A0.tmps.getD 45 undef,A0.tmps.getD 46 undef,by rw[<-gD];clear gD;go_simp,hT⟩
  ·refine aZ ?_ (aZ ?_ (aZ ?_ (aZ ?_ (aZ ?_ (aZ ?_ iA)))));all_goals
    rintro m a y iK hd ⟨u6,u8,At,xq,yX,ha,H⟩;clear hT
   ·obtain⟨d0,d1,d2⟩:=bP H.bx;have Vo:=H.bx.lt;replace H:=U H;replace hd:=U hd;replace iK:=U iK;rw[ha,<-gD];clear ha gD;simp only[di,dX];go_wp2;refine cD (λh=>absurd h (by decide)) ?_;refine⟨_,u8,At,xq,yX,?_,H.xI⟩;go_simp
   ·obtain⟨d0,d1,d2⟩:=bP H.bx;have Vo:=H.bx.lt;replace H:=U H;replace hd:=U hd;replace iK:=U iK;rw[ha,<-gD];clear ha gD;simp only[di,dX];go_wp2;refine cD (λh=>absurd h (by decide)) ?_;refine⟨u6,_,At,xq,yX,?_,H.eight⟩;go_simp
   ·replace H:=U H;replace hd:=U hd;replace iK:=U iK;rw[ha,<-gD];clear ha gD;simp only[di,dX];go_wp2;refine cD (λh=>absurd h (by decide)) ?_;refine⟨u6,u8,_,xq,yX,?_,H.build⟩;go_simp
   ·obtain⟨g2,e18,k1,k2⟩:=H.Vl.get hd (by kernel_rfl);subst e18;have hhi:∀b,S b->b<y.1.size:=λb q=>Nat.lt_trans (hS b q) H.bx.lt;have hsy:=hs.aE (w:=W) (w':=y) (λb q=>((bI w.1.size W).drew.trans H.J).block b (hS.Z b q));have j8:=hsy.T1 (k:=i) (Nat.le_of_lt bY);have vK:=hsy.Yj (k:=i+1) bY;replace vK:ay Y.frame false y S (.slice AV (l.length-(i+1)) (c-(i+1))) (l.drop (i+1)):=by rw[HAV.Z];exact vK
    replace j8:=U j8;replace vK:=U vK;replace k2:=U k2;clear hsy;replace H:=U H;replace hd:=U hd;replace iK:=U iK;rw[ha,<-gD];clear ha gD;simp only[di,dX];go_wp2_with fail;refine(G6 S g2 _ _ _ _ _ _ (l.take i) (l.drop (i+1)) y hhi (by simp;omega) (by simp) j8.Z vK.Z k2.Z (by simp;omega)).mono ?_;rintro e z ⟨⟨u,cells,rfl,ho,hr⟩,I⟩;replace ho:=U ho;replace hr:=U hr;replace I:=U I;go_wp2;refine cD (λ_=>(H.ext (by cases h:m.testBit 21 with |false=>rfl |true=>have q:=H.ord h;rw[iK.Z] at q;cases q)).trans (Ext.below I.Z bE)) ?_;refine⟨u6,u8,_,u,yX,?_,H.call I.Z ho.Z hr.Z iK.Z⟩;go_simp
   ·obtain rfl:=H.h6.get hd (by kernel_rfl);obtain rfl:=H.h8.get hd (by kernel_rfl);obtain⟨cells,ho,_⟩:=H.OC.get hd (by kernel_rfl);obtain⟨UA,uc,rfl⟩:=Ps ho;clear ho;have Vp:=dw.get (m:=m) (i:=19) (φ:=m.testBit 19=true) (λh=>h) hd (by kernel_rfl);replace Vp:=U Vp;replace H:=U H;replace hd:=U hd;replace iK:=U iK;rw[ha,<-gD];clear ha gD;simp only[di,dX];go_wp2;refine cD (λh=>absurd h (by decide)) ?_;refine⟨_,_,At,_,_,?_,H.Vn Vp.Z⟩;go_simp
   ·have Xw:=H.b4 iK;obtain⟨c0,c1,c2,c3,c4,c5,c6,c7,c8⟩:=bJ Xw;obtain⟨f0,f1,f2,f3,f4,f5,f6,f7,f8⟩:=tR Xw;have Vo:=Xw.lt;have Vp:=dw.get (m:=m) (i:=19) (φ:=m.testBit 19=true) (λh=>h) hd (by kernel_rfl);replace Xw:=U Xw;replace Vp:=U Vp;replace H:=U H;replace hd:=U hd;replace iK:=U iK;rw[ha,<-gD];clear ha gD;simp only[di,dX];go_wp2;refine cD (λh=>absurd h (by decide)) ?_;refine⟨u6,u8,At,xq,yX,?_,H.store (λk Q=>Pk (w:=y) (b:=w.1.size+1) Q) (Pj Xw.Z) (qQ cT (Nat.le_succ _)) Vp.Z⟩;go_simp
  ·rintro a W5 ⟨u6,u8,At,xq,yX,ha,H⟩;clear hT;obtain rfl:=H.h6.done (by kernel_rfl);obtain rfl:=H.h8.done (by kernel_rfl);obtain⟨cells,ho,hr⟩:=H.OC.done (by kernel_rfl);obtain⟨UA,uc,he,_⟩:=(ay.ie (S:=λb=>S b\/xq.ownBlock=some b) ho (Y.jw (λb I=> .inl I) hr) (λb I=> .inr I):ay Y.frame false W5 _ xq (l.take i++l.drop (i+1)));subst he;have e20:=H.Xu.done (by kernel_rfl);subst e20;have b4:=H.Vm.done (by kernel_rfl);have b5:=H.b5;have hBW:=HBd.trans H.J;clear H;have HO:=U ho;replace hr:=U hr;replace hBW:=U hBW;clear ho;obtain⟨d0,d1,d2⟩:=bP b5;have df0:=ey b5 0;have df1:=ey b5 1;have df2:=ey b5 2;have hwl:=b5.lt;rw[ha,<-gD];clear ha gD;obtain⟨n,xr⟩:=cJ ((l.take i++l.drop (i+1)).length);rw[xr];change aK _ at xr;refine aG [22,23] 0 ?_;go_wp2;refine fX ?_;clear d0 d1 d2 df0 df1 df2;refine R4 λax Yo=>?_;have b5V:G ax (w.1.size+1+1) #[fi,cp,.slice UA n uc] 105:=by rw[<-Yo];exact dS (dS (dS b5 0 _) 1 _) 2 _
   have Pt:∀k,k≠w.1.size+1+1->ax.1[k]?=W5.1[k]?:=λk Q=>by rw[<-Yo];exact((dF _ _ _ _ Q).trans (dF _ _ _ _ Q)).trans (dF _ _ _ _ Q)
   have hzV:ax.1.size=W5.1.size:=by rw[<-Yo];simp[World.setCell]
   have hBV:aY w ax:=by rw[<-Yo];exact((hBW.setCell (by simp;omega) _).setCell (by simp;omega) _).setCell (by simp;omega) _
   clear Yo b5;have b4V:G ax (w.1.size+1) #[x.kind,x.aC,x.seq,x.bB,.slice pA x.pieces.length pk,x.init,x.num,.int .i64 x.count,.slice pB x.path.length pl] 149:=(Pt _ (by omega)).trans b4;clear b4;obtain⟨c0,c1,c2,c3,c4,c5,c6,c7,c8⟩:=bJ b4V;obtain⟨d0,d1,d2⟩:=bP b5V;have hl4:=b4V.lt;have hl5:=b5V.lt;change aK _ at Pt hzV;replace hBV:=U hBV;refine eN ?_;go_wp2;refine bL (v:=.tuple #[.agg #[x.kind,x.aC,x.seq,x.bB,.slice pA x.pieces.length pk,x.init,x.num,.int .i64 x.count,.slice pB x.path.length pl],.agg #[fi,cp,.slice UA n uc],aP]) (by simp[results,results54,go_sem,c0,c1,c2,c3,c4,c5,c6,c7,c8,d0,d1,d2]) rfl ⟨⟨_,_,rfl,?_,?_⟩,hBV.Z⟩
   ·rw[show l.getD i Fr.zero=x from by rw[dB,D.Z];rfl];exact hp.aE (w':=ax) (λb I=>((hBV.block b (hS b I)).trans (J.block b (hS b I)).symm))
   ·have ho:=HO.Z;rw[xr.Z] at ho;have T8:(La.less ⟨fi,cp,l⟩ i).l.length=n:=xr.Z;refine jC.own (a:=La.less ⟨fi,cp,l⟩ i) (W:=W5) (B:=w.1.size+1+1+1) (by rw[T8];exact ho) hr.Z (by omega) hzV.Z (λb I=>Pt b (by have q:=I.imp (hS.Z b) id;omega))
end Go.Proofs.YtmgahjkopiaglaaGreat
namespace Go.Proofs.YtmgahjkopiaglaaGreat
open Go.RowKit Go.Proofs.Tryz
theorem ML{w:World}{S:Nat->Prop}:nt false w S (.agg #[aP,aP,aP,aP,(),aP,aP,aP,()]) Fr.zero:=⟨none,none,0,0,rfl,ay.none_,ay.none_⟩
theorem La.Vq{a:La}{i:Int}(h:La.can a i=false):i<0\/(¬i<0/\(a.l.length:Int)<=i)\/(¬i<0/\i<(a.l.length:Int)/\i>0/\a.bF=true):=by
 by_cases F:i<0
 ·exact .inl F
 ·by_cases R:(a.l.length:Int)<=i
  ·exact .inr (.inl ⟨F,R⟩)
  ·refine .inr (.inr ⟨F,by omega,?_⟩);have e1:decide (0<=i)=true:=cV (by omega);have e2:decide (i<(a.l.length:Int))=true:=cV (by omega);unfold La.can at h;rw[e1,e2] at h;cases hf:a.bF with
   |false=>rw[hf] at h;simp at h
   |true=>rw[hf] at h;simp at h;exact⟨by omega,rfl⟩
theorem La.Sa{a:La}{i:Int}(h:La.can a i=true):∃k:Nat,i=(k:Int)/\k<a.l.length/\(a.bF=true->k=0):=by
 unfold La.can at h;simp only[cQ,lY,dC,nT] at h;obtain⟨F,R,h3⟩:=h;refine⟨i.toNat,by omega,by omega,λhf=>?_⟩;rcases h3 with h3|h3
 ·rw[h3] at hf;cases hf
 ·omega
end Go.Proofs.YtmgahjkopiaglaaGreat
namespace Go.Proofs.YtmgahjkopiaglaaGreat
open Go.RowKit Go.Proofs.Tryz
theorem J7(v:Value)(fi:Bool)(cp:Int)(l:List Fr)(i:Int)(w:World)(S:Nat->Prop)(hS:∀b,S b->b<w.1.size)(h:kz w S v ⟨fi,cp,l⟩)(hi:i<0):Calls prog 54 #[v,i] w
 λy w'=>y=.returned (.tuple #[.agg #[aP,aP,aP,aP,(),aP,aP,aP,()],.agg #[false,aP,()],.int .i64 3])/\aY w w':=by
 obtain⟨A,c,he,F⟩:=h;dsimp only at he F;subst he;have hl:=(F.og hS).kh;have J6:l.length<=c:=(F.og hS).Ar;clear hS;go_in;go_upto_region 1 with fail
 refine OB λW0 bx b4 b5 J=>?_;have qy:=bx.lt;obtain⟨d0,d1,d2⟩:=bP bx;obtain⟨c0,c1,c2,c3,c4,c5,c6,c7,c8⟩:=bJ b4;obtain⟨g0,g1,g2,g3,g4,g5,g6,g7,g8⟩:=tR b4;obtain⟨z0,z1,z2⟩:=bP b5;have zf0:=ey b5 0;have zf1:=ey b5 1;have zf2:=ey b5 2;have h4l:=b4.lt;have h5l:=b5.lt;clear F;go_wp2;refine bL (v:=.tuple #[.agg #[aP,aP,aP,aP,(),aP,aP,aP,()],.agg #[false,aP,()],.int .i64 3]) (by simp[results,results54,go_sem,c0,c1,c2,c3,c4,c5,c6,c7,c8,z0,z1,z2]) rfl ⟨rfl,?_⟩;exact(((qQ J (by omega)).setCell (by simp;omega) _).setCell (by simp;omega) _).setCell (by simp;omega) _
theorem G7(v:Value)(fi:Bool)(cp:Int)(l:List Fr)(i:Int)(w:World)(S:Nat->Prop)(hS:∀b,S b->b<w.1.size)(h:kz w S v ⟨fi,cp,l⟩)(hi:¬i<0)(Mv:(l.length:Int)<=i):Calls prog 54 #[v,i] w
 λy w'=>y=.returned (.tuple #[.agg #[aP,aP,aP,aP,(),aP,aP,aP,()],.agg #[false,aP,()],.int .i64 3])/\aY w w':=by
 obtain⟨A,c,he,F⟩:=h;dsimp only at he F;subst he;have hl:=(F.og hS).kh;have J6:l.length<=c:=(F.og hS).Ar;clear hS;go_in;go_upto_region 1 with fail
 refine OB λW0 bx b4 b5 J=>?_;have qy:=bx.lt;obtain⟨d0,d1,d2⟩:=bP bx;obtain⟨c0,c1,c2,c3,c4,c5,c6,c7,c8⟩:=bJ b4;obtain⟨g0,g1,g2,g3,g4,g5,g6,g7,g8⟩:=tR b4;obtain⟨z0,z1,z2⟩:=bP b5;have zf0:=ey b5 0;have zf1:=ey b5 1;have zf2:=ey b5 2;have h4l:=b4.lt;have h5l:=b5.lt;clear F;have T7:i>=(l.length:Int):=by omega
 go_wp2;refine bL (v:=.tuple #[.agg #[aP,aP,aP,aP,(),aP,aP,aP,()],.agg #[false,aP,()],.int .i64 3]) (by simp[results,results54,go_sem,c0,c1,c2,c3,c4,c5,c6,c7,c8,z0,z1,z2]) rfl ⟨rfl,?_⟩;exact(((qQ J (by omega)).setCell (by simp;omega) _).setCell (by simp;omega) _).setCell (by simp;omega) _
theorem G8(v:Value)(cp:Int)(l:List Fr)(i:Int)(w:World)(S:Nat->Prop)(hS:∀b,S b->b<w.1.size)(h:kz w S v ⟨true,cp,l⟩)(hi:¬i<0)(bY:i<(l.length:Int))(h0:i>0):Calls prog 54 #[v,i] w
 λy w'=>y=.returned (.tuple #[.agg #[aP,aP,aP,aP,(),aP,aP,aP,()],.agg #[false,aP,()],.int .i64 3])/\aY w w':=by
 obtain⟨A,c,he,F⟩:=h;dsimp only at he F;subst he;have hl:=(F.og hS).kh;have J6:l.length<=c:=(F.og hS).Ar;clear hS;go_in;go_upto_region 1 with fail
 refine OB λW0 bx b4 b5 J=>?_;have qy:=bx.lt;obtain⟨d0,d1,d2⟩:=bP bx;obtain⟨c0,c1,c2,c3,c4,c5,c6,c7,c8⟩:=bJ b4;obtain⟨g0,g1,g2,g3,g4,g5,g6,g7,g8⟩:=tR b4;obtain⟨z0,z1,z2⟩:=bP b5;have zf0:=ey b5 0;have zf1:=ey b5 1;have zf2:=ey b5 2;have h4l:=b4.lt;have h5l:=b5.lt;clear F;have T7:¬i>=(l.length:Int):=by omega
 go_wp2;refine bL (v:=.tuple #[.agg #[aP,aP,aP,aP,(),aP,aP,aP,()],.agg #[false,aP,()],.int .i64 3]) (by simp[results,results54,go_sem,c0,c1,c2,c3,c4,c5,c6,c7,c8,z0,z1,z2]) rfl ⟨rfl,?_⟩;exact(((qQ J (by omega)).setCell (by simp;omega) _).setCell (by simp;omega) _).setCell (by simp;omega) _
theorem J8(v:Value)(a:La)(i:Int)(w:World)(S:Nat->Prop)(hS:∀b,S b->b<w.1.size)(h:kz w S v a)(hn:a.l.length<=1000000):Calls prog 54 #[v,i] w
 λy w'=>(∃p u,y=.returned (.tuple #[p,u,.int .i64 (La.mN a i)])/\nt false w' S p (La.nz a i)/\jC w' S w.1.size u (La.take a i))/\aY w w':=by
 obtain⟨fi,cp,l⟩:=a;cases hc:La.can ⟨fi,cp,l⟩ i with
 |false=>
  have key:Calls prog 54 #[v,i] w λy w'=>y=.returned (.tuple #[.agg #[aP,aP,aP,aP,(),aP,aP,aP,()],.agg #[false,aP,()],.int .i64 3])/\aY w w':=by
   rcases La.Vq hc with F|⟨F,R⟩|⟨F,R,h3,h4⟩
   ·exact J7 v fi cp l i w S hS h F
   ·exact G7 v fi cp l i w S hS h F R
   ·have h5:fi=true:=h4;subst h5;exact G8 v cp l i w S hS h F R h3
  refine key.mono ?_;rintro y w' ⟨rfl,I⟩;rw[La.mN,La.nz,La.take,hc];exact⟨⟨_,_,rfl,ML,jC.zero⟩,I⟩
 |true=>
  obtain⟨k,rfl,F,R⟩:=La.Sa hc;refine(J5 v fi cp l k w S hS h hn F R).mono ?_;rintro y w' ⟨⟨p,u,rfl,hp,hu⟩,I⟩;rw[La.mN,La.nz,La.take,hc];exact⟨⟨p,u,rfl,hp,hu⟩,I⟩
end Go.Proofs.YtmgahjkopiaglaaGreat
namespace Go.Proofs.YtmgahjkopiaglaaGreat
open Go.RowKit Go.Proofs.Tryz
variable{v vf u:Value}{a b:La}{f:Fr}{w w':World}{S:Nat->Prop}{lo hi g:Nat}
theorem T9(S:Nat->Prop)(b:La)(n:Int)(hS:∀b,S b->b<w.1.size)(h:kz w S v a)(hf:nt false w S vf f)(hn:a.l.length<1000000)(hp:La.push a f=b)(he:La.kx a f=n):Calls prog 79 #[v,vf] w
 λy w'=>(∃C c,y=.returned (.tuple #[.agg #[b.bF,b.cap,.slice C b.l.length c],n])/\jC w' S w.1.size (.agg #[b.bF,b.cap,.slice C b.l.length c]) b)/\aY w w':=by
 subst hp he;refine(J0 v vf a f w S hS h hf hn).mono ?_;rintro y w' ⟨⟨u,rfl,hu⟩,I⟩;obtain⟨C,c,rfl,_⟩:=id hu;exact⟨⟨C,c,rfl,hu⟩,I⟩
theorem Yp(S:Nat->Prop)(p:Fr)(b:La)(n i:Int)(hS:∀b,S b->b<w.1.size)(h:kz w S v a)(hn:a.l.length<=1000000)(hf:La.nz a i=p)(hp:La.take a i=b)(he:La.mN a i=n):Calls prog 54 #[v,i] w
 λy w'=>(∃A k B l C c,y=.returned (.tuple #[.agg #[p.kind,p.aC,p.seq,p.bB,.slice A p.pieces.length k,p.init,p.num,.int .i64 p.count,.slice B p.path.length l],.agg #[b.bF,b.cap,.slice C b.l.length c],n])/\nt false w' S (.agg #[p.kind,p.aC,p.seq,p.bB,.slice A p.pieces.length k,p.init,p.num,.int .i64 p.count,.slice B p.path.length l]) p/\jC w' S w.1.size (.agg #[b.bF,b.cap,.slice C b.l.length c]) b)/\aY w w':=by
 subst hf hp he;refine(J8 v a i w S hS h hn).mono ?_;rintro y w' ⟨⟨p,u,rfl,hp,hu⟩,I⟩;obtain⟨C,c,rfl,_⟩:=id hu;obtain⟨A,B,k,l,rfl,_⟩:=id hp;exact⟨⟨A,k,B,l,C,c,rfl,hp,hu⟩,I⟩
theorem LR{n:Int}{q:Bool}(h:ky false w 0 w.1.size v a)(R6:1<=a.cap/\a.cap<=20)(ki:lK a.l)(hn:a.l.length<=1000000)(hq:La.fits a n=q):Calls prog 52 #[v,n] w
 λy w'=>y=.returned (.bool q)/\aY w w':=by subst hq;exact JX v a w h n R6 ki hn
theorem Pu{k:Int}{n:Nat}(h:ky false w 0 w.1.size v a)(Q:(Lit.int .i64 k).wf=true)(ki:lK a.l)(hn:a.l.length<=1000000)(hq:La.kV k a.l=n):Calls prog 60 #[v,k] w
 λy w'=>y=.returned (.int .i64 (n:Int))/\aY w w':=by subst hq;exact ym v a w h k Q ki hn
end Go.Proofs.YtmgahjkopiaglaaGreat
namespace Go.Proofs.YtmgahjkopiaglaaGreat
open Go.RowKit Go.Proofs.Tryz Go.Instr
theorem xK{P:Program}{t e:TypeId}{i:TypeInfo}(ht:P.underlying t=some (.array 2 e))(he:P.underlying e=some (.int .i64))(hi:P.info? e=some i)(hs:i.size=1)(w:World)(a b c d:Int):
 (Op.equalIn 10000 t (.agg #[a,b]) (.agg #[c,d])).run P w=.ok (a==c&&b==d) w:=by
 have F:∀(k:Nat)(x y:Int),(Op.equalIn (k+1) e (.int .i64 x) (.int .i64 y)).run P w=.ok (x==y) w:=λk x y=>by
  simp[Op.equalIn,kM he]
 have hp:∀(x y:Int),(part e #[x,y] 0).run P w=.ok (.int .i64 x) w/\(part e #[x,y] 1).run P w=.ok (.int .i64 y) w:=λx y=>by
  have Q:P.plainKey e=true:=by unfold Program.plainKey;rw[he]
  exact⟨run_part_plain w Q rfl,run_part_plain w Q rfl⟩
 have h:∀k:Nat,(Op.equalIn (k+2) t (.agg #[a,b]) (.agg #[c,d])).run P w=.ok (a==c&&b==d) w:=λk=>by
  rw[Op.equalIn];simp[kM ht,sizeOf,typeInfo,hi,hs,List.range',(hp _ _).1,(hp _ _).2,F];cases R:(a==c)<;>cases h3:(b==d)<;>simp_all
 exact h 9998
theorem G.mO{w:World}{b:Nat}{cs:Array Value}{T:TypeId}(h:G w b cs T)(i:Nat):w.frozen? ⟨b,i,none⟩=false:=by
 unfold G at h;simp[World.frozen?,h]
def cz(w:World)(b:Nat):Nat->List Value->World
 |_,[]=>w
 |i,v::l=>cz (w.setCell ⟨b,i,none⟩ v) b (i+1) l
theorem bV{b k:Nat}(Q:k≠b):∀(l:List Value)(i:Nat)(w:World),(cz w b i l).1[k]?=w.1[k]?
 |[],_,_=>rfl
 |v::l,i,w=>(bV Q l (i+1) _).trans (by simp only[World.setCell];rw[zT];simp[fT Q])
theorem bR{b:Nat}:∀(l:List Value)(i:Nat)(w:World),(cz w b i l).1.size=w.1.size
 |[],_,_=>rfl
 |v::l,i,w=>(bR l (i+1) _).trans (by simp[World.setCell])
theorem aI{B b:Nat}{w0:World}(J:B<=b):∀(l:List Value)(i:Nat)(w:World),Below B w0 w->Below B w0 (cz w b i l)
 |[],_,_,h=>h
 |v::l,i,w,h=>aI J l (i+1) _ (h.setCell J _)
theorem xL{b:Nat}{T:TypeId}:∀(l:List Value)(pre qd:List Value)(w:World),G w b (pre++qd).toArray T->qd.length=l.length->G (cz w b pre.length l) b (pre++l).toArray T
 |[],pre,qd,w,h,e=>by
  have:qd=[]:=ib e;subst this;exact h
 |v::l,pre,qd,w,h,e=>by
  cases qd with
  |nil=>simp at e
  |cons o qd=>
   have F:=dS h pre.length v;have e1:(pre++o::qd).toArray.setIfInBounds pre.length v=(pre++[v]++qd).toArray:=by simp
   have R:G (w.setCell ⟨b,pre.length,none⟩ v) b (pre++[v]++qd).toArray T:=by unfold G;rw[<-e1];exact F
   have h3:=xL l (pre++[v]) qd _ R (by simpa using e);simpa[cz] using h3
theorem Pv{b:Nat}{T:TypeId}{w:World}{cs:Array Value}(l:List Value)(h:G w b cs T)(e:cs.size=l.length):G (cz w b 0 l) b l.toArray T:=
 xL l [] cs.toList w (by simpa using h) (by simpa using e)
end Go.Proofs.YtmgahjkopiaglaaGreat
namespace Go.Proofs.YtmgahjkopiaglaaGreat
open Go.RowKit Go.Proofs.Tryz
namespace Gr
def node(n k:Int):Bool:=decide (0<=k)&&decide (k<n)
def find(l:List (Int×Int))(a b:Int):Int:=Pc.idx (λx=>decide (x=(a,b))) l
def at_(l:List (Int×Int))(k:Nat):Int×Int:=l.getD k (0,0)
def end_(e:Bool)(x:Int×Int):Int:=if e then x.2 else x.1
def upto(l:List (Int×Int))(n:Int)(e:Bool):Nat->List Int
 |0=>[]
 |k+1=>if end_ e (at_ l k)=n then upto l n e k++[(k:Int)] else upto l n e k
def outs(l:List (Int×Int))(n:Int):List Int:=upto l n false l.length
def ins(l:List (Int×Int))(n:Int):List Int:=upto l n true l.length
def back(l:List (Int×Int))(k:Int):Int:=if k<0\/(l.length:Int)<=k then -1 else find l (at_ l k.toNat).2 (at_ l k.toNat).1
theorem uz{l:List (Int×Int)}{k:Nat}{x:Int×Int}(h:l[k]?=some x):at_ l k=x:=by unfold at_;rw[dB,h];rfl
theorem lL(l:List (Int×Int))(n:Int)(e:Bool):∀k,(upto l n e k).length<=k:=by
 intro k;induction k with
 |zero=>simp[upto]
 |succ k ih=>
  unfold upto;split
  ·rw[dh];simp;omega
  ·omega
end Gr
theorem xM(n k:Int)(v:Value)(w:World):Calls prog 39 #[.agg #[n,v],k] w λy w'=>y=.returned (.bool (Gr.node n k))/\aY w w':=by
 go_in;go_upto_region 1 with fail
 refine jt λW0 bx J=>?_;have ab:=ch bx;by_cases h0:0<=k
 ·have q0:decide (0<=k)=true:=by simpa using h0
  go_wp2;go_ret;exact⟨by simp[Gr.node,h0],J⟩
 ·have q0:decide (0<=k)=false:=by simpa using h0
  go_wp2;go_ret;exact⟨by unfold Gr.node;rw[q0];rfl,J⟩
theorem l9(n a b:Int)(v:Value)(xs:List (Int×Int))(w:World)(h:aM Y.msg false w 0 w.1.size v xs):
 Calls prog 92 #[.agg #[n,v],a,b] w λy w'=>y=.returned (.int .i64 (Gr.find xs a b))/\aY w w':=by
 obtain⟨A,c,rfl,hl,hm,hA⟩:=h;unfold maxLen at hm;replace hA:=U hA;go_in;go_upto_region 2 with fail
 refine r9 λW0 bx Yq J=>?_;have ab:=ch bx;go_wp2;clear ab;go_loopg [8,9,16] xs.length (λk _ _ i wr=>∃j:Nat,i=.int .i64 (j:Int)/\j<=xs.length/\k=xs.length-j/\Pc.clear (λx:Int×Int=>decide (x=(a,b))) xs j/\G wr (w.1.size+1) #[a,b] 129/\aY w wr)
 case atStart=>exact⟨0,rfl,by omega,by omega,Pc.fI _ _,Yq,J⟩
 case round=>
  clear Yq J bx;obtain⟨j,rfl,hj,Q,hr,Yq,J⟩:=hrel;replace hr:=U hr;change aK _ at Q;by_cases bY:j<xs.length
  ·obtain⟨⟨x1,x2⟩,D⟩:=Pc.get_at bY;obtain⟨gx,o,rfl,_,hg,c0,c1⟩:=(hA.below J bE).msg D;dsimp only at c0 c1;have Dx:gx<wr.1.size:=aU hg J.size;replace D:=U D;go_upto_region 5 with fail
   refine jt λW1 bz I=>?_;clear c0 c1;have Yr:=Yq.next I;have qU:=J.trans (I.mono J.size);have ab:=eE Yr bz;clear Yq I J;replace Yr:=U Yr;clear bz;have heq:=xK (P:=prog) underlying129 underlying3 (i:=_) rfl rfl W1 x1 x2 a b;by_cases q1:x1=a
   ·have b1:(x1==a)=true:=by simpa using q1
    by_cases q2:x2=b
    ·subst q1 q2;go_wp2;go_ret;exact⟨by unfold Gr.find;rw[Pc.iT hr.Z D.Z (by simp)];rfl,qU⟩
    ·have b2:(x2==b)=false:=by simpa using q2
     replace q2:=U q2;clear q1;go_wp2;go_roundg (xs.length-(j+1))
     case rel=>exact⟨j+1,by simp,by omega,rfl,Pc.ew hr.Z D.Z (bZ (by intro e;exact q2 (Prod.mk.inj e).2)),Yr.Z,qU⟩
     case measure=>have:=Q.Z;omega
   ·have b1:(x1==a)=false:=by simpa using q1
    replace q1:=U q1;go_wp2;go_roundg (xs.length-(j+1))
    case rel=>exact⟨j+1,by simp,by omega,rfl,Pc.ew hr.Z D.Z (bZ (by intro e;exact q1 (Prod.mk.inj e).1)),Yr.Z,qU⟩
    case measure=>have:=Q.Z;omega
  ·go_wp2;go_ret;have jx:j=xs.length:=by omega
   subst jx;exact⟨by unfold Gr.find;rw[Pc.gd hr.Z];rfl,J⟩
structure iN where
 src:Int
 bB:Int
 next:Int
deriving DecidableEq
def Y.jc:Y iN where
 size:=3
 pos:=by omega
 is _ _ _ cs p:=cs=[.int .i64 p.src,.int .i64 p.bB,.int .i64 p.next]
 len h:=by rw[h];rfl
 aE h _:=h
 aF h _:=h
 soft h:=h
 one h:=by rw[h];intro u hu;simp at hu;rcases hu with rfl |rfl |rfl<;>rfl
structure yp where
 next:Int
 eo:List (Int×Int)
deriving DecidableEq
def Y.lh:Y yp where
 size:=2
 pos:=by omega
 is fr w S cs p:=∃vsends,cs=[.int .i64 p.next,vsends]/\ay (Y.msg) fr w S vsends p.eo
 len h:=by obtain⟨vsends,rfl,hsends⟩:=h;rfl
 aE h Q:=by obtain⟨vsends,rfl,hsends⟩:=h;exact⟨vsends,rfl,hsends.aE Q⟩
 aF h Q:=by obtain⟨vsends,rfl,hsends⟩:=h;exact⟨vsends,rfl,hsends.aF Q⟩
 soft h:=by obtain⟨vsends,rfl,hsends⟩:=h;exact⟨vsends,rfl,hsends.soft⟩
 one h:=by
  obtain⟨_,rfl,⟨_,_,rfl,_⟩⟩:=h;intro u hu;simp at hu;rcases hu with rfl |rfl<;>rfl
structure nu where
 mode:Int
 waits:List Int
 dg:List yp
 dd:List iN
deriving DecidableEq
def Y.eV:Y nu where
 size:=4
 pos:=by omega
 is fr w S cs p:=∃vwaits vpicks vtakes,cs=[.int .i64 p.mode,vwaits,vpicks,vtakes]/\ay (Y.int) fr w S vwaits p.waits/\ay (Y.lh) fr w S vpicks p.dg/\ay (Y.jc) fr w S vtakes p.dd
 len h:=by obtain⟨vwaits,vpicks,vtakes,rfl,hwaits,hpicks,htakes⟩:=h;rfl
 aE h Q:=by obtain⟨vwaits,vpicks,vtakes,rfl,hwaits,hpicks,htakes⟩:=h;exact⟨vwaits,vpicks,vtakes,rfl,hwaits.aE Q,hpicks.aE Q,htakes.aE Q⟩
 aF h Q:=by obtain⟨vwaits,vpicks,vtakes,rfl,hwaits,hpicks,htakes⟩:=h;exact⟨vwaits,vpicks,vtakes,rfl,hwaits.aF Q,hpicks.aF Q,htakes.aF Q⟩
 soft h:=by obtain⟨vwaits,vpicks,vtakes,rfl,hwaits,hpicks,htakes⟩:=h;exact⟨vwaits,vpicks,vtakes,rfl,hwaits.soft,hpicks.soft,htakes.soft⟩
 one h:=by
  obtain⟨_,_,_,rfl,⟨_,_,rfl,_⟩,⟨_,_,rfl,_⟩,⟨_,_,rfl,_⟩⟩:=h;intro u hu;simp at hu;rcases hu with rfl |rfl |rfl |rfl<;>rfl
structure iD where
 start:Int
 aL:List nu
deriving DecidableEq
def Y.eC:Y iD where
 size:=2
 pos:=by omega
 is fr w S cs p:=∃vstates,cs=[.int .i64 p.start,vstates]/\ay (Y.eV) fr w S vstates p.aL
 len h:=by obtain⟨vstates,rfl,hstates⟩:=h;rfl
 aE h Q:=by obtain⟨vstates,rfl,hstates⟩:=h;exact⟨vstates,rfl,hstates.aE Q⟩
 aF h Q:=by obtain⟨vstates,rfl,hstates⟩:=h;exact⟨vstates,rfl,hstates.aF Q⟩
 soft h:=by obtain⟨vstates,rfl,hstates⟩:=h;exact⟨vstates,rfl,hstates.soft⟩
 one h:=by
  obtain⟨_,rfl,⟨_,_,rfl,_⟩⟩:=h;intro u hu;simp at hu;rcases hu with rfl |rfl<;>rfl
def jI(n lo hi:Int):Bool:=decide (lo<=n)&&decide (n<hi)
def uW(n:Int):Bool:=decide (0<=n)&&decide (n<=2147483647)
def Tree.of(t e:Int):Bool:=t==e
theorem yr(n:Int)(w:World):Calls prog 93 #[n] w λy w'=>y=.returned (.bool (jI n 0 4))/\aY w w':=by
 go_in;have J:=bI w.1.size w;by_cases h0:0<=n
 ·
  have Gi:(decide (0<=n))=true:=by simpa using h0
  go_wp2;go_ret;exact⟨by unfold jI;try rw[Gi];first |rfl |simp,J⟩
 ·
  have Gi:(decide (0<=n))=false:=by simpa using h0
  go_wp2;go_ret;exact⟨by unfold jI;try rw[Gi];first |rfl |simp,J⟩
theorem DG(n:Int)(w:World):Calls prog 46 #[n] w λy w'=>y=.returned (.bool (uW n))/\aY w w':=by
 go_in;have J:=bI w.1.size w;by_cases h0:0<=n
 ·
  have Gi:(decide (0<=n))=true:=by simpa using h0
  go_wp2;go_ret;exact⟨by unfold uW;try rw[Gi];first |rfl |simp,J⟩
 ·
  have Gi:(decide (0<=n))=false:=by simpa using h0
  go_wp2;go_ret;exact⟨by unfold uW;try rw[Gi];first |rfl |simp,J⟩
theorem qV(t u k:Int)(v:Value)(e:Int)(w:World):Calls prog 200 #[.agg #[t,u,k,v],e] w λy w'=>y=.returned (.bool (Tree.of t e))/\aY w w':=by
 go_in;go_upto_region 1 with fail
 refine jt λW0 b0 J=>?_;have ab:=ch b0;go_wp2;go_ret;exact⟨by unfold Tree.of;simp,J⟩
theorem Bm(m n st gn:Int)(v1 v2 v3 v4:Value)(A:Option Addr)(k c:Nat)(s:Int)(w:World):Calls prog 94 #[.agg #[m,v1,v2,v3,n,st,.slice A k c,gn,v4],s] w λy w'=>y=.returned (.bool (jI s 0 (k:Int)))/\aY w w':=by
 go_in;go_upto_region 1 with fail
 refine jt λW0 b0 J=>?_;have ab:=ch b0;by_cases h0:0<=s
 ·
  have Gi:(decide (0<=s))=true:=by simpa using h0
  go_wp2;go_ret;exact⟨by unfold jI;try rw[Gi];first |rfl |simp,J⟩
 ·
  have Gi:(decide (0<=s))=false:=by simpa using h0
  go_wp2;go_ret;exact⟨by unfold jI;try rw[Gi];first |rfl |simp,J⟩
theorem Pw(e s:Int)(A:Option Addr)(k c:Nat)(p0 p1 p2:Int)(v1 v2 v3:Value)(w:World):Calls prog 198 #[.agg #[e,.slice A k c,p0,p1,p2,v1,v2,v3],s] w λy w'=>y=.returned (.bool (jI s 0 (k:Int)))/\aY w w':=by
 go_in;go_upto_region 1 with fail
 refine jt λW0 b0 J=>?_;have ab:=ch b0;by_cases h0:0<=s
 ·
  have Gi:(decide (0<=s))=true:=by simpa using h0
  go_wp2;go_ret;exact⟨by unfold jI;try rw[Gi];first |rfl |simp,J⟩
 ·
  have Gi:(decide (0<=s))=false:=by simpa using h0
  go_wp2;go_ret;exact⟨by unfold jI;try rw[Gi];first |rfl |simp,J⟩
def Tree.settled(t k e:Int):Bool:=Tree.of t e&&decide (k<1)
theorem G9(t u k:Int)(v:Value)(e:Int)(w:World):Calls prog 173 #[.agg #[t,u,k,v],e] w λy w'=>y=.returned (.bool (Tree.settled t k e))/\aY w w':=by
 go_in;go_upto_region 1 with fail
 refine jt λW0 b0 J=>?_;have D2:=ch b0;by_cases h0:t=e;focus
  have Gi:(Tree.of t e)=true:=by simp[Tree.of,h0]
 rotate_left;focus
  have Gi:(Tree.of t e)=false:=by simp[Tree.of,h0]
 all_goals
  clear h0;go_wp2_with fail;refine(qV t u k v e _).mono ?_;rintro e w1 ⟨rfl,I⟩;clear D2;refine lW I b0 J ?_;clear I b0 J;intro _ b0 J;have ab:=ch b0;go_wp2;go_ret;exact⟨by unfold Tree.settled;rw[Gi];rfl,J⟩
def Pl.nv(n:Int)(l:List (Int×Int))(s:Int):Bool:=decide (0<=Gr.find l s n)
theorem LS(m n st gn:Int)(v1 v2 v3 v5:Value)(A:Option Addr)(c:Nat)(s:Int)(xs:List (Int×Int))(w:World)(h:aM Y.msg false w 0 w.1.size (.slice A xs.length c) xs):Calls prog 90 #[.agg #[m,v1,v2,v3,n,st,v5,gn,.slice A xs.length c],s] w λy w'=>y=.returned (.bool (Pl.nv n xs s))/\aY w w':=by
 replace h:=U h;go_in;go_upto_region 1 with fail
 refine jt λW0 b0 J=>?_;have ab:=ch b0;go_wp2_with fail;refine(l9 gn s n _ xs _ ((h.below J bE).aF bE J.size)).mono ?_;rintro e w1 ⟨rfl,I⟩;clear ab;refine lW I b0 J ?_;clear I b0 J;intro _ b0 J;have ab:=ch b0;go_wp2;go_ret;exact⟨by unfold Pl.nv;simp,J⟩
end Go.Proofs.YtmgahjkopiaglaaGreat
