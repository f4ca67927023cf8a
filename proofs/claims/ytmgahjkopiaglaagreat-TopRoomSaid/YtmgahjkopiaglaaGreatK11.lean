/- Lemmas, walks and contracts by which the statement is proved. -/
import Derived.Test.YtmgahjkopiaglaaGreatK10
import Derived.Laws.Bits64b
set_option maxRecDepth 100000
set_option maxHeartbeats 16000000
set_option linter.all false
namespace Go.Proofs.YtmgahjkopiaglaaGreat
open Go.RowKit Go.Proofs.Tryz
def fE{α:Type}(r:Y α)(e T:TypeId)(B:Nat)(w:World)(v:Value)(xs:List (List α)):Prop:=
 ∃vs:List Value,w.ownsRow B T 1 v xs.length vs/\vs.length=xs.length/\
  (∀(k:Nat)(u:Value)(x:List α),vs[k]?=some u->xs[k]?=some x->Row r e B w u.ownBlock u x/\sK u.ownBlock v.ownBlock)/\
  (∀(i j:Nat)(a b:Value),i≠j->vs[i]?=some a->vs[j]?=some b->sK a.ownBlock b.ownBlock)
theorem aN{a b c:World}{row:Option Nat}(h:a.grownBy b row)(R:b.grownBy c row):a.grownBy c row:=
 ⟨R.os.trans h.os,R.tape.trans h.tape,R.output.trans h.output,bT h.size R.size,λk Q fz=>(R.block k (aU Q h.size) fz).trans (h.block k Q fz)⟩
theorem aT{a w:World}{row:Option Nat}(h:aY a w):a.grownBy w row:=⟨h.os,h.tape,h.output,h.size,λi hi _=>h.block i hi⟩
theorem DL{w:World}{g:Nat}(u:Value):w.grownBy (w.setCell ⟨g,0,none⟩ u) (some g):=
 ⟨rfl,rfl,rfl,by simp[World.setCell],λk Q fz=>dF _ _ _ _ (by rintro rfl;exact fz rfl)⟩
theorem Bt{w w':World}{g b:Nat}(h:w.grownBy w' (some g))(I:b<w.1.size)(fz:b≠g):w'.1[b]?=w.1[b]?:=h.block b I (λe=>fz (by injection e))
section
variable{α:Type}{r:Y α}{e T:TypeId}{B:Nat}{w w1 w2:World}{v u:Value}{xs:List (List α)}{x:List α}
theorem Row.nil(r:Y α)(e:TypeId)(B:Nat)(w:World):Row r e B w none (.slice none 0 0) []:=⟨[],pL _ _ _ _,rfl,rfl⟩
theorem fE.nil(r:Y α)(e T:TypeId)(B:Nat)(w:World):fE r e T B w (.slice none 0 0) []:=
 ⟨[],pL _ _ _ _,rfl,λ_ _ _ h=>by simp at h,λ_ _ _ _ _ h=>by simp at h⟩
theorem fE.move(h:fE r e T B w v xs)(Q:∀b,B<=b->b<w.1.size->w1.1[b]?=w.1[b]?):fE r e T B w1 v xs:=by
 obtain⟨vs,F,R,h3,h4⟩:=h;exact⟨vs,mK F Q,R,λk u x hu D=>⟨(h3 k u x hu D).1.aE λb I=>Q b ((h3 k u x hu D).1.lt I).1 ((h3 k u x hu D).1.lt I).2,(h3 k u x hu D).2⟩,h4⟩
theorem fE.next(h:fE r e T B w v xs)(I:aY w w1):fE r e T B w1 v xs:=h.move λb _ R=>I.block b R
instance:Nx w w1 (fE r e T B w v xs) (fE r e T B w1 v xs):=⟨λq p=>p.next q⟩
theorem fE.base{B':Nat}(h:fE r e T B w v xs)(J:B'<=B):fE r e T B' w v xs:=by
 obtain⟨vs,F,R,h3,h4⟩:=h;exact⟨vs,wv F J,R,λk u x hu D=>⟨(h3 k u x hu D).1.base J,(h3 k u x hu D).2⟩,h4⟩
theorem Y.He{fr:Bool}{S:Nat->Prop}:∀ {xs:List (List α)} {vs:List Value},vs.length=xs.length->(∀(k:Nat)(u:Value)(x:List α),vs[k]?=some u->xs[k]?=some x->ay r fr w S u x)->r.slice.all fr w S vs xs
 |[],vs,h,_=>by simpa[Y.all] using h
 |x::xs,[],h,_=>by simp at h
 |x::xs,v::vs,h,Q=>⟨[v],vs,rfl,⟨v,rfl,Q 0 v x rfl rfl⟩,Y.He (by simpa using h) λk u y hu hy=>Q (k+1) u y (by simpa using hu) (by simpa using hy)⟩
theorem fE.slice(h:fE r e T B w v xs):aM r.slice true w B w.1.size v xs:=by
 obtain⟨vs,F,R,h3,h4⟩:=h;exact ay.ie (r:=r.slice) (base:=B) (e:=T) F (Y.He R λk u x hu D=>(h3 k u x hu D).1.slice) (λb I=>F.lt b I)
theorem fE.step{bu:Option Nat}(h:fE r e T B w v xs)(Q:∀b,B<=b->b<w.1.size->w1.1[b]?=w.1[b]?)(hs:w.1.size<=w1.1.size)(J:B<=w.1.size)(hu:Row r e w.1.size w1 bu u x):
 ∃vs,w1.ownsRow B T 1 v xs.length vs/\∀v' w2,w2.ownsRow B T 1 v' (xs.length+1) (vs++[u])->w1.grownBy w2 v.ownBlock->(v'.ownBlock=v.ownBlock\/∃n,v'.ownBlock=some n/\w1.1.size<=n)->fE r e T B w2 v' (xs++[x]):=by
 obtain⟨vs,F,R,h3,h4⟩:=h;refine⟨vs,mK F Q,λv' w2 ho hg ha=>⟨vs++[u],by rw[dh];exact ho,by simp[R],?_,?_⟩⟩
 ·intro k y z hy hz;have hvb:∀n,v.ownBlock=some n->n<w.1.size:=λn hn=>(F.lt n hn).2;have oZ:∀n,u.ownBlock=some n->w.1.size<=n/\n<w1.1.size:=λn hn=>by
   obtain⟨_,q1,_,q3⟩:=hu;exact q1.lt n hn
  rcases pQ k vs.length with bY|Mv
  ·rw[lF bY] at hy;rw[lF (by omega)] at hz;obtain⟨k1,k2⟩:=h3 k y z hy hz;have k3:=k1.aE (w':=w1) λb I=>Q b (k1.lt I).1 (k1.lt I).2;refine⟨k3.aE λb I=>hg.block b (k3.lt I).2 λhe=>k2 b I he.symm,?_⟩;intro b I dO;rcases ha with ha|⟨n,ha,hn⟩
   ·exact k2 b I (ha▸dO)
   ·rw[ha] at dO;cases dO;have:=(k1.lt I).2;omega
  ·have ma:k=vs.length:=by
    have:=(eD.1 hy).1;simp at this;omega
   subst ma;simp at hy;subst hy;have mJ:z=x:=by rw[R] at hz;simp at hz;exact hz.symm
   subst mJ;obtain⟨cells,q1,q2,q3⟩:=hu;have hu':Row r e B w1 u.ownBlock u z:=⟨cells,wv q1 J,q2,rfl⟩;refine⟨hu'.aE λb I=>hg.block b (oZ b I).2 λhe=>by have:=hvb b he.symm;have:=(oZ b I).1;omega,?_⟩;intro b I dO;rcases ha with ha|⟨n,ha,hn⟩
   ·have:=hvb b (ha▸dO);have:=(oZ b I).1;omega
   ·rw[ha] at dO;cases dO;have:=(oZ _ I).2;omega
 ·have oZ:∀n,u.ownBlock=some n->w.1.size<=n:=λn hn=>by
   obtain⟨_,q1,_,q3⟩:=hu;exact(q1.lt n hn).1
  have qd:∀(i:Nat)(a:Value),vs[i]?=some a->∀n,a.ownBlock=some n->n<w.1.size:=λi a hi n hn=>by
   have bY:=(eD.1 hi).1;obtain⟨z,hz⟩:=Pc.get_at (show i<xs.length by omega);exact((h3 i a z hi hz).1.lt hn).2
  have one:∀(i:Nat)(a:Value),(vs++[u])[i]?=some a->vs[i]?=some a\/(i=vs.length/\a=u):=λi a hi=>by
   rcases pQ i vs.length with bY|Mv
   ·rw[lF bY] at hi;exact .inl hi
   ·have:i=vs.length:=by have:=(eD.1 hi).1;simp at this;omega
    subst this;simp at hi;exact .inr ⟨rfl,hi.symm⟩
  intro i j a b PD hi hj;rcases one i a hi with Xv|⟨Xv,T7⟩<;>rcases one j b hj with Ua|⟨Ua,jx⟩
  ·exact h4 i j a b PD Xv Ua
  ·intro n h5 h6;have:=qd _ _ Xv n h5;have:=oZ n (jx▸h6);omega
  ·intro n h5 h6;have:=qd _ _ Ua n h6;have:=oZ n (T7▸h5);omega
  ·omega
theorem fE.get(h:fE r e T B w v xs){k:Nat}(D:xs[k]?=some x):∃g c u,v=.slice (some ⟨g,0,none⟩) xs.length c/\B<=g/\g<w.1.size/\xs.length<=c/\c<=maxLen/\w.cell? ⟨g,k,none⟩=some u/\w.frozen? ⟨g,k,none⟩=false/\Row r e B w u.ownBlock u x/\sK u.ownBlock (some g)/\
 ∀(u':Value)(x':List α)(w1:World),Row r e B w1 u'.ownBlock u' x'->w.grownBy w1 u.ownBlock->(u'.ownBlock=u.ownBlock\/∃n,u'.ownBlock=some n/\w.1.size<=n)->fE r e T B (w1.setCell ⟨g,k,none⟩ u') v (xs.set k x'):=by
 obtain⟨vs,F,R,h3,h4⟩:=h;have bY:=(eD.1 D).1;obtain⟨u,hu⟩:=Pc.get_at (show k<vs.length by omega);obtain⟨k1,k2⟩:=h3 k u x hu D;rcases F.2 with⟨_,h0⟩|⟨g,cap,cur,rfl,hg,hh,hnc,CJ,fM,Fs⟩
 ·omega
 have Fm:g<w.1.size:=gm hh;have hcu:cur[k]?=some u:=by
  have:(cur.toList.take (xs.length * 1))[k]?=some u:=by rw[Fs];exact hu
  rw[List.getElem?_take_of_lt (by omega)] at this;simpa using this
 refine⟨g,cap,u,rfl,hg,Fm,hnc,CJ,?_,by simp[World.frozen?,hh],k1,k2,?_⟩
 ·rw[cell_of_row w g k cur T (0,0) hh];exact hcu
 intro u' x' w1 hr DB ha;have lV:w1.1[g]?=some (.cells cur T (0,0)):=(DB.block g Fm λhe=>k2 g he.symm rfl).trans hh;have hgb:(w1.setCell ⟨g,k,none⟩ u').1[g]?=some (.cells (cur.setIfInBounds k u') T (0,0)):=by
  exact dS lV k u'
 have Bu:∀b,b≠g->(w1.setCell ⟨g,k,none⟩ u').1[b]?=w1.1[b]?:=λb I=>dF _ _ _ _ (by simpa using I);have hug:∀b,u'.ownBlock=some b->b≠g:=λb I he=>by
  subst he;rcases ha with ha|⟨n,ha,hn⟩
  ·exact k2 b (ha▸I) rfl
  ·rw[ha] at I;cases I;omega
 refine⟨vs.set k u',⟨by simp[R],.inr ⟨g,cap,_,by simp,hg,hgb,by simpa using hnc,CJ,by simpa using fM,?_⟩⟩,by simp[R],?_,?_⟩
 ·have Sd:cur.toList.take xs.length=vs:=by simpa using Fs
  have:(cur.setIfInBounds k u').toList=cur.toList.set k u':=by simp
  rw[this,fG,nW,List.take_set,Sd]
 ·intro i y z hy hz;by_cases hi:i=k
  ·subst hi;rw[vR (by omega)] at hy hz;cases hy;cases hz;exact⟨hr.aE λb I=>Bu b (hug b I),λb I he=>by cases he;exact hug _ I rfl⟩
  ·rw[uK (fT hi)] at hy hz;obtain⟨q1,q2⟩:=h3 i y z hy hz;have q3:=h4 i k y u hi hy hu;have q4:Row r e B w1 y.ownBlock y z:=q1.aE λb I=>DB.block b (q1.lt I).2 λhe=>q3 b I he.symm;exact⟨q4.aE λb I=>Bu b λhe=>q2 b I (by rw[he];rfl),q2⟩
 ·have qd:∀(i:Nat)(y:Value),i≠k->vs[i]?=some y->sK y.ownBlock u'.ownBlock:=λi y hi hy=>by
   have hl:=(eD.1 hy).1;obtain⟨z,hz⟩:=Pc.get_at (show i<xs.length by omega);have q3:=h4 i k y u hi hy hu;intro b I dO;rcases ha with ha|⟨n,ha,hn⟩
   ·exact q3 b I (ha▸dO)
   ·rw[ha] at dO;cases dO;have:=((h3 i y z hy hz).1.lt I).2;omega
  intro i j a b PD hi hj;by_cases qh:i=k
  ·subst qh;rw[vR (by omega)] at hi;cases hi;rw[uK PD] at hj;exact(qd j b (fT PD) hj).symm
  ·rw[uK (fT qh)] at hi;by_cases Pd:j=k
   ·subst Pd;rw[vR (by omega)] at hj;cases hj;exact qd i a qh hi
   ·rw[uK (fT Pd)] at hj;exact h4 i j a b PD hi hj
end
section
variable{P:Program}{w:World}{ops:Array Oper}{rest:List Oper}{o:Oper}{a:Act}{ao:Exit->Act->World->Prop}
theorem wP{α:Type}{r:Y α}{w0:World}{xs:List (List α)}{y:List α}{u:Value}{bu:Option Nat}(o7:o.guard=none)(s x:Operand)(t:TypeId)(ho:o.op=.call {callee:=.builtin .append,args:=#[s,x],argTypes:=#[t,t]})
 (B:Nat)(e T:TypeId){z:Value}{bytes:Nat}(fU:(P.info? T).map (λi=>(i.zero,i.size,i.bytes))=some (some z,1,bytes))(ht:P.underlying t=some (.slice T))
 (nZ:z.cells.size=1)(E6:bytes<=1000)(v:Value)(hs:a.eval s=v)(AY:fE r e T B w0 v xs)(Q:∀b,B<=b->b<w0.1.size->w.1[b]?=w0.1[b]?)(fM:w0.1.size<=w.1.size)(J:B<=w0.1.size)
 (c ar:Nat)(D:a.eval x=.slice ar 1 c)(hH:w.1.size=ar)(hu:Row r e w0.1.size w bu u y)(hn:xs.length<=1000000)
 (h:∀v' w',fE r e T B w' v' (xs++[y])->w.grownBy w' v.ownBlock->Below B w w'->wpList P ops ao rest (a.put o.dst v') w'):wpList P ops ao (o::rest) a (w.alloc (.cells #[u] T)):=by
 obtain⟨cells,cG,DA⟩:=AY.step Q fM J hu;have yW:u.oneCell'=true:=by obtain⟨A,c,rfl,_⟩:=hu.slice;rfl
 refine lH (cs:=[u]) o7 s x t ho B T fU ht nZ (by omega) v xs.length cells hs cG 1 c ar D hH (by simp) (by intro q hq;simp at hq;subst hq;exact yW) (by unfold maxLen;omega) (bT (pq (show xs.length+1<=1000001 by omega) E6) (by omega)) (by omega) ?_;intro v' w' F R h3 h4;refine h v' w' (DA v' w' F R ?_) R h3;rcases h4 with h4|h4
 ·exact .inl h4
 ·exact .inr ⟨_,h4,by omega⟩
end
theorem Tryz.qi:(prog.info? 141).map (λi=>(i.zero,i.size,i.bytes))=some (some (.agg #[aP,aP]),2,16):=by kernel_rfl
theorem Tryz.MR:(prog.info? 36).map (λi=>(i.zero,i.size,i.bytes))=some (some (.slice none 0 0),1,24):=by kernel_rfl
theorem Tryz.MS:(prog.info? 93).map (λi=>(i.zero,i.size,i.bytes))=some (some (.slice none 0 0),1,24):=by kernel_rfl
theorem Bv{α:Type}{r:Y α}{A:Option Addr}{w:World}{lo hi:Nat}{x:α}{l:List α}{c:Nat}(h:dM r false w lo hi A (x::l))(hl:l.length+1<=c)(hc:c<=maxLen)(g o:Nat)(hA:A=some ⟨g,o,none⟩):
 aM r false w lo hi (.slice (if c=1 then some ⟨g,o,none⟩ else some ⟨g,o+r.size,none⟩) l.length (c-1)) l:=by
 subst hA;refine⟨_,_,rfl,by omega,by omega,?_⟩;obtain⟨cells,F,R⟩:=h;obtain⟨cs,rest,rfl,h3,h4⟩:=F;refine⟨rest,h4,λhn=>?_⟩;obtain⟨g',o',he,h5,h6⟩:=R (by simp);injection he with he
 injection he with ur r'
 subst ur r';rw[aO (by omega)];refine⟨g,o+r.size,rfl,h5,λj u hj=>?_⟩;have:=h6 (r.size+j) u (by rw[pJ (by rw[r.len h3];omega),r.len h3,vQ];exact hj);rwa[show o+r.size+j=o+(r.size+j) from by omega]
def uZ{α:Type}(r:Y α)(T:TypeId)(g:Nat)(w:World)(l:List (List α)):Prop:=∃v,w.1[g]?=some (.cells #[v] T (0,0))/\aM r.slice false w 0 g v l
theorem uZ.Bu{α:Type}{r:Y α}{T:TypeId}{g:Nat}{w w':World}{l:List (List α)}(h:uZ r T g w l)(I:∀b,b<=g->w'.1[b]?=w.1[b]?):uZ r T g w' l:=by
 obtain⟨v,F,R⟩:=h;exact⟨v,(I g bE).trans F,R.aE λb _ dO=>I b (by omega)⟩
theorem yu(v:Value)(xs:List (Int×Int))(w:World)(h:aM Y.msg false w 0 w.1.size v xs)(D:xs.length<=1000000):Calls prog 206 #[v] w
 λx w'=>(∃v',x=.returned v'/\Row Y.msg 141 w.1.size w' v'.ownBlock v' xs)/\aY w w':=by
 obtain⟨A,c,rfl,hl,hm,hA⟩:=h;have q:∀(w:World)(a:Option Addr)(n c n' c':Nat),(binOp .eql 93 (.slice a n c) (.slice none n' c')).run prog w=.ok (.bool a.isNone) w:=λw a n c n' c'=>vV w _ _ a n c n' c' underlying93;cases A with
 |none=>
  have sa:xs=[]:=by
   obtain⟨cells,_,R⟩:=hA;rcases m7 xs.length with h0|h0
   ·exact ib h0
   ·obtain⟨_,_,h,_⟩:=R h0;cases h
  subst sa;clear hA;go_in;go_wp2;go_ret;exact⟨⟨_,rfl,Row.nil _ _ _ _⟩,cT⟩
 |some a=>
  have cG:(w.alloc (.cells ([]:List Value).toArray 141)).ownsRow w.1.size 141 Y.msg.size (.slice w.1.size 0 0) 0 []:=tQ (size:=Y.msg.size) w.1.size 141 0 [] (by simp) bE (by unfold maxLen;omega);have iv:aY w (w.alloc (.cells ([]:List Value).toArray 141)):=cT.alloc bE _;have nA:=hA.below iv bE;replace cG:=U cG;replace nA:=U nA;clear hA;go_in;go_wp2_with (at_builtin;refine jT (r:=Y.msg) rfl (.tmp 5) (.tmp 6) 93 rfl w.1.size 141 Tryz.qi underlying93 rfl _ 0 [] rfl cG.Z _ _ rfl nA.Z (by unfold maxLen;omega) (by omega) (by simp) ?_;intro v1 w1 news hn ik lV ee lM);go_ret;refine⟨⟨_,rfl,⟨news,by simpa using ik,Y.oa DJ hn,rfl⟩⟩,iv.trans ee⟩
theorem Kh(g:Nat)(x:List (Int×Int))(l:List (List (Int×Int)))(w:World)(h:uZ Y.msg 37 g w (x::l))(D:x.length<=1000000):Calls prog 216 #[.pointer g] w
 λy w'=>(∃v,y=.returned v/\Row Y.msg 141 w.1.size w' v.ownBlock v x)/\uZ Y.msg 37 g w' l/\w.grownBy w' (some g):=by
 obtain⟨v,F,A,c,rfl,hl,hc,hA⟩:=h;have c0:=qN F;have f0:=free_of_one F;have bY:=gm F;replace F:=U F;obtain⟨gx,ox,vx,rfl,_,jy,d0,hvx⟩:=hA.row (k:=0) (x:=x) rfl;rw[iS] at d0;have hS:=Bv hA (by simpa using hl) hc gx ox rfl;have hC:=yu vx x w (hvx.aF bE (by omega)) D;replace hC:=U hC;clear hvx hA;have hl':l.length+1<=c:=by simpa using hl
 unfold maxLen at hc;have key:∀(w1:World)(u:Value),aY w w1->aM Y.msg.slice false w 0 g u l->uZ Y.msg 37 g (w1.setCell ⟨g,0,none⟩ u) l/\w.grownBy (w1.setCell ⟨g,0,none⟩ u) (some g):=λw1 u I hu=>
  ⟨⟨u,one_setCell ((I.block g bY).trans F.Z),(hu.below I (by omega)).aE λb _ I=>dF _ _ _ _ (by simp;omega)⟩,aN (aT I) (DL u)⟩
 change aK _ at key;have cr:∀w1,aY w w1->w1.cell? ⟨g,0,none⟩=some (.slice (some ⟨gx,ox,none⟩) (x::l).length c)/\w1.frozen? ⟨g,0,none⟩=false:=λw1 I=>⟨qN ((I.block g bY).trans F.Z),free_of_one ((I.block g bY).trans F.Z)⟩;change aK _ at cr;by_cases qX:c=1;focus
  subst qX;obtain rfl:l=[]:=ib (by omega);rw[aS rfl] at hS
 rotate_left;focus
  rw[aO qX] at hS
 all_goals
  replace hS:=U hS;go_in;go_wp2_with fail;refine(hC.Z).mono ?_;rintro e w1 ⟨⟨v1,rfl,rL⟩,ee⟩;obtain⟨c1,f1⟩:=cr w1 ee;clear c0 f0;go_wp2;go_ret;exact⟨⟨_,rfl,rL.aE λk Q=>dF _ _ _ _ (by have:=(rL.lt Q).1;simp;omega)⟩,key w1 _ ee hS.Z⟩
theorem y5(g:Nat)(xs:List (List (Int×Int)))(w:World)(hr:uZ Y.msg 37 g w xs)(bY:g<w.1.size)(D:∀x∈xs,x.length<=1000000)(hn:xs.length<=1000000):
 Calls prog 215 #[.int .i64 xs.length,.func (.func 216) #[] #[.pointer g]] w λy w'=>(∃v,y=.returned v/\fE Y.msg 141 93 w.1.size w' v xs)/\w.grownBy w' (some g):=by
 have HX:=U D;clear D;go_in;go_wp2;go_loopg [5,7] xs.length (λk v i wr=>∃j:Nat,i=.int .i64 (j:Int)/\j<=xs.length/\k=xs.length-j/\fE Y.msg 141 93 w.1.size wr v (xs.take j)/\uZ Y.msg 37 g wr (xs.drop j)/\w.grownBy wr (some g))
 case atStart=>exact⟨0,rfl,by omega,by omega,fE.nil _ _ _ _ _,hr,ka _ _⟩
 case round=>
  clear hr;obtain⟨j,rfl,hj,Q,ha,hr,hg⟩:=hrel;have HK:=U Q;clear Q;by_cases hjn:j<xs.length
  ·obtain⟨x,D⟩:=Pc.get_at hjn;rw[Pc.Ai D] at hr;have Ft:=HX.Z x (dV D);have kH:=Pc.de D;replace kH:=U kH;clear D;go_wp2_with fail;refine(Kh g x _ _ hr Ft).mono ?_;rintro e w1 ⟨⟨v1,rfl,rL⟩,Az,lV⟩;obtain⟨A1,c1,rfl,Fo,lu⟩:=rL.form;have fM:=hg.size;have acz:=lV.size;go_wp2_with (at_builtin;refine wP (r:=Y.msg) (xs:=xs.take j) (y:=x) rfl (.tmp 9) (.tmp 12) 37 rfl w.1.size 141 93 Tryz.MS underlying37 rfl (by omega) _ rfl ha (λb F R=>Bt lV R (by omega)) lV.size fM 1 _ rfl (by simp) rL (by simp;omega) ?_;intro v2 w2 yv Yt dO);rw[<-kH.Z] at yv;go_roundg (xs.length-(j+1))
   case rel=>exact⟨j+1,by simp,by omega,rfl,yv,Az.Bu (λb I=>dO.block b (by omega)),⟨dO.os.trans (aN hg lV).os,dO.tape.trans (aN hg lV).tape,dO.output.trans (aN hg lV).output,bT (aN hg lV).size dO.size,λk Q fz=>(dO.block k (by omega)).trans ((aN hg lV).block k Q fz)⟩⟩
   case measure=>have:=HK.Z;omega
  ·rw[jL (by omega)] at ha;obtain⟨A2,c2,rfl,_⟩:=ha.slice;replace ha:=U ha;clear hr;go_wp2;go_ret;exact⟨⟨_,rfl,ha.Z⟩,hg⟩
theorem DM(v:Value)(xs:List (List (Int×Int)))(w:World)(h:aM Y.msg.slice false w 0 w.1.size v xs)(D:∀x∈xs,x.length<=1000000)(hn:xs.length<=1000000):Calls prog 181 #[v] w
 λy w'=>(∃v',y=.returned v'/\fE Y.msg 141 93 w.1.size w' v' xs)/\aY w w':=by
 have hmf:∀(fn:Fn)(first cap:Array Value)(w:World),(Instr.makeFunc fn first cap).run prog w=.ok (.func fn first cap) w:=λ_ _ _ _=>rfl;have iv:aY w (w.alloc (.cells #[v] 37)):=cT.alloc bE _;have hr:uZ Y.msg 37 w.1.size (w.alloc (.cells #[v] 37)) xs:=⟨v,np _ _,h.below iv bE⟩;obtain⟨A,c,rfl,hl,hm,hA⟩:=h;have HL:=U (y5 w.1.size xs _ hr (by simp) D hn);clear hr D hA;unfold maxLen at hm;go_in;go_wp2_with fail;refine(HL.Z).mono ?_;rintro e w1 ⟨⟨v1,rfl,rL⟩,lV⟩;obtain⟨A2,c2,rfl,_⟩:=id rL.slice;go_wp2;go_ret;refine⟨⟨_,rfl,rL.base (by simp)⟩,iv.trans ⟨lV.os,lV.tape,lV.output,lV.size,λk Q=>lV.block k (by simp;omega) (by intro e;injection e;omega)⟩⟩
theorem yw(v:Value)(xs:List Int)(w:World)(h:aM Y.int false w 0 w.1.size v xs)(D:xs.length<=1000000):Calls prog 180 #[v] w
 λx w'=>(∃v',x=.returned v'/\Row Y.int 3 w.1.size w' v'.ownBlock v' xs)/\aY w w':=by
 obtain⟨A,c,rfl,hl,hm,hA⟩:=h;have q:∀(w:World)(a:Option Addr)(n c n' c':Nat),(binOp .eql 36 (.slice a n c) (.slice none n' c')).run prog w=.ok (.bool a.isNone) w:=λw a n c n' c'=>vV w _ _ a n c n' c' underlying36;cases A with
 |none=>
  have sa:xs=[]:=by
   obtain⟨cells,_,R⟩:=hA;rcases m7 xs.length with h0|h0
   ·exact ib h0
   ·obtain⟨_,_,h,_⟩:=R h0;cases h
  subst sa;clear hA;go_in;go_wp2;go_ret;exact⟨⟨_,rfl,Row.nil _ _ _ _⟩,cT⟩
 |some a=>
  have cG:(w.alloc (.cells ([]:List Value).toArray 3)).ownsRow w.1.size 3 Y.int.size (.slice w.1.size 0 0) 0 []:=tQ (size:=Y.int.size) w.1.size 3 0 [] (by simp) bE (by unfold maxLen;omega);have iv:aY w (w.alloc (.cells ([]:List Value).toArray 3)):=cT.alloc bE _;have nA:=hA.below iv bE;replace cG:=U cG;replace nA:=U nA;clear hA;go_in;go_wp2_with (at_builtin;refine jT (r:=Y.int) rfl (.tmp 5) (.tmp 6) 36 rfl w.1.size 3 Tryz.eG underlying36 rfl _ 0 [] rfl cG.Z _ _ rfl nA.Z (by unfold maxLen;omega) (by omega) (by simp) ?_;intro v1 w1 news hn ik lV ee lM);go_ret;refine⟨⟨_,rfl,⟨news,by simpa using ik,Y.oa yt hn,rfl⟩⟩,iv.trans ee⟩
theorem Ki(g:Nat)(x:List Int)(l:List (List Int))(w:World)(h:uZ Y.int 107 g w (x::l))(D:x.length<=1000000):Calls prog 218 #[.pointer g] w
 λy w'=>(∃v,y=.returned v/\Row Y.int 3 w.1.size w' v.ownBlock v x)/\uZ Y.int 107 g w' l/\w.grownBy w' (some g):=by
 obtain⟨v,F,A,c,rfl,hl,hc,hA⟩:=h;have c0:=qN F;have f0:=free_of_one F;have bY:=gm F;replace F:=U F;obtain⟨gx,ox,vx,rfl,_,jy,d0,hvx⟩:=hA.row (k:=0) (x:=x) rfl;rw[iS] at d0;have hS:=Bv hA (by simpa using hl) hc gx ox rfl;have hC:=yw vx x w (hvx.aF bE (by omega)) D;replace hC:=U hC;clear hvx hA;have hl':l.length+1<=c:=by simpa using hl
 unfold maxLen at hc;have key:∀(w1:World)(u:Value),aY w w1->aM Y.int.slice false w 0 g u l->uZ Y.int 107 g (w1.setCell ⟨g,0,none⟩ u) l/\w.grownBy (w1.setCell ⟨g,0,none⟩ u) (some g):=λw1 u I hu=>
  ⟨⟨u,one_setCell ((I.block g bY).trans F.Z),(hu.below I (by omega)).aE λb _ I=>dF _ _ _ _ (by simp;omega)⟩,aN (aT I) (DL u)⟩
 change aK _ at key;have cr:∀w1,aY w w1->w1.cell? ⟨g,0,none⟩=some (.slice (some ⟨gx,ox,none⟩) (x::l).length c)/\w1.frozen? ⟨g,0,none⟩=false:=λw1 I=>⟨qN ((I.block g bY).trans F.Z),free_of_one ((I.block g bY).trans F.Z)⟩;change aK _ at cr;by_cases qX:c=1;focus
  subst qX;obtain rfl:l=[]:=ib (by omega);rw[aS rfl] at hS
 rotate_left;focus
  rw[aO qX] at hS
 all_goals
  replace hS:=U hS;go_in;go_wp2_with fail;refine(hC.Z).mono ?_;rintro e w1 ⟨⟨v1,rfl,rL⟩,ee⟩;obtain⟨c1,f1⟩:=cr w1 ee;clear c0 f0;go_wp2;go_ret;exact⟨⟨_,rfl,rL.aE λk Q=>dF _ _ _ _ (by have:=(rL.lt Q).1;simp;omega)⟩,key w1 _ ee hS.Z⟩
theorem y6(g:Nat)(xs:List (List Int))(w:World)(hr:uZ Y.int 107 g w xs)(bY:g<w.1.size)(D:∀x∈xs,x.length<=1000000)(hn:xs.length<=1000000):
 Calls prog 217 #[.int .i64 xs.length,.func (.func 218) #[] #[.pointer g]] w λy w'=>(∃v,y=.returned v/\fE Y.int 3 36 w.1.size w' v xs)/\w.grownBy w' (some g):=by
 have HX:=U D;clear D;go_in;go_wp2;go_loopg [5,7] xs.length (λk v i wr=>∃j:Nat,i=.int .i64 (j:Int)/\j<=xs.length/\k=xs.length-j/\fE Y.int 3 36 w.1.size wr v (xs.take j)/\uZ Y.int 107 g wr (xs.drop j)/\w.grownBy wr (some g))
 case atStart=>exact⟨0,rfl,by omega,by omega,fE.nil _ _ _ _ _,hr,ka _ _⟩
 case round=>
  clear hr;obtain⟨j,rfl,hj,Q,ha,hr,hg⟩:=hrel;have HK:=U Q;clear Q;by_cases hjn:j<xs.length
  ·obtain⟨x,D⟩:=Pc.get_at hjn;rw[Pc.Ai D] at hr;have Ft:=HX.Z x (dV D);have kH:=Pc.de D;replace kH:=U kH;clear D;go_wp2_with fail;refine(Ki g x _ _ hr Ft).mono ?_;rintro e w1 ⟨⟨v1,rfl,rL⟩,Az,lV⟩;obtain⟨A1,c1,rfl,Fo,lu⟩:=rL.form;have fM:=hg.size;have acz:=lV.size;go_wp2_with (at_builtin;refine wP (r:=Y.int) (xs:=xs.take j) (y:=x) rfl (.tmp 9) (.tmp 12) 107 rfl w.1.size 3 36 Tryz.MR underlying107 rfl (by omega) _ rfl ha (λb F R=>Bt lV R (by omega)) lV.size fM 1 _ rfl (by simp) rL (by simp;omega) ?_;intro v2 w2 yv Yt dO);rw[<-kH.Z] at yv;go_roundg (xs.length-(j+1))
   case rel=>exact⟨j+1,by simp,by omega,rfl,yv,Az.Bu (λb I=>dO.block b (by omega)),⟨dO.os.trans (aN hg lV).os,dO.tape.trans (aN hg lV).tape,dO.output.trans (aN hg lV).output,bT (aN hg lV).size dO.size,λk Q fz=>(dO.block k (by omega)).trans ((aN hg lV).block k Q fz)⟩⟩
   case measure=>have:=HK.Z;omega
  ·rw[jL (by omega)] at ha;obtain⟨A2,c2,rfl,_⟩:=ha.slice;replace ha:=U ha;clear hr;go_wp2;go_ret;exact⟨⟨_,rfl,ha.Z⟩,hg⟩
theorem DN(v:Value)(xs:List (List Int))(w:World)(h:aM Y.int.slice false w 0 w.1.size v xs)(D:∀x∈xs,x.length<=1000000)(hn:xs.length<=1000000):Calls prog 182 #[v] w
 λy w'=>(∃v',y=.returned v'/\fE Y.int 3 36 w.1.size w' v' xs)/\aY w w':=by
 have hmf:∀(fn:Fn)(first cap:Array Value)(w:World),(Instr.makeFunc fn first cap).run prog w=.ok (.func fn first cap) w:=λ_ _ _ _=>rfl;have iv:aY w (w.alloc (.cells #[v] 107)):=cT.alloc bE _;have hr:uZ Y.int 107 w.1.size (w.alloc (.cells #[v] 107)) xs:=⟨v,np _ _,h.below iv bE⟩;obtain⟨A,c,rfl,hl,hm,hA⟩:=h;have HL:=U (y6 w.1.size xs _ hr (by simp) D hn);clear hr D hA;unfold maxLen at hm;go_in;go_wp2_with fail;refine(HL.Z).mono ?_;rintro e w1 ⟨⟨v1,rfl,rL⟩,lV⟩;obtain⟨A2,c2,rfl,_⟩:=id rL.slice;go_wp2;go_ret;refine⟨⟨_,rfl,rL.base (by simp)⟩,iv.trans ⟨lV.os,lV.tape,lV.output,lV.size,λk Q=>lV.block k (by simp;omega) (by intro e;injection e;omega)⟩⟩
theorem Kj(n:Nat)(h:n<4294967296):bits .and .u64 (n:Int) 4294967295=n:=by
 have F:=bits_and_u64_nat n 4294967295 (by omega) (by omega);have e:n&&& 4294967295=n % 4294967296:=Nat.and_two_pow_sub_one_eq_mod n 32;rw[e,Nat.mod_eq_of_lt h] at F;exact F
theorem MT(n:Nat)(w:World)(hn:n<=1000000):Calls prog 127 #[.int .u64 1,.int .u64 n] w λy w'=>y=.returned (.tuple #[.int .u64 0,.int .u64 n])/\w'=w:=by
 have m1:bits .and .u64 1 4294967295=1:=Kj 1 (by omega);have m0:bits .and .u64 0 4294967295=0:=Kj 0 (by omega);have mn:=Kj n (by omega);have dn:(n:Int) / 4294967296=0:=by omega
 have wn:IntKind.u64.wrap (n:Int)=n:=by rw[IntKind.wrap_u64];omega
 go_in;go_wp2;go_ret2;simp[m1,m0,mn,dn,wn]
theorem LW(n:Nat)(w:World)(hn:n<=1000000):Calls prog 89 #[.int .u64 1,.int .u64 n] w λy w'=>y=.returned (.tuple #[.int .u64 0,.int .u64 n])/\w'=w:=by
 go_in;go_wp2_with fail;refine(MT n _ hn).mono ?_;rintro e w1 ⟨rfl,rfl⟩;go_wp2;go_ret2;exact⟨rfl,rfl⟩
section
variable{P:Program}{w:World}{ops:Array Oper}{rest:List Oper}{o:Oper}{a:Act}{ao:Exit->Act->World->Prop}
theorem fQ(o7:o.guard=none)(d s:Operand)(dT sT:TypeId)(ho:o.op=.call {callee:=.builtin .copy,args:=#[d,s],argTypes:=#[dT,sT]})(elem:TypeId)(size:Nat)(hu:P.underlying dT=some (.slice elem))(fM:(P.info? elem).map (·.size)=some size)
 (g o' uU C8:Nat)(ad:Addr)(nr wI k:Nat)(hd:a.eval d=.slice (some ⟨g,o',none⟩) uU C8)(hs:a.eval s=.slice (some ad) nr wI)(Q:Nat.min nr uU=k)
 (cur:Array Value)(t:TypeId)(hg:w.1[g]?=some (.cells cur t (0,0)))(cs:List Value)(hn:cs.length=k * size)
 (Fg:∀j v,cs[j]?=some v->w.cell? (ad.add j)=some v)(rV:o'+cs.length<=cur.size)(F:∀v∈cs,v.oneCell'=true)
 (h:∀w',w'.1[g]?=some (.cells (cur.toList.take o'++cs++cur.toList.drop (o'+cs.length)).toArray t (0,0))->(∀b,b≠g->w'.1[b]?=w.1[b]?)->Below g w w'->wpList P ops ao rest (a.put o.dst (goInt k)) w'):wpList P ops ao (o::rest) a w:=by
 refine px o7 λaj hK=>?_;have pa:=uw (P:=P) w dT sT o.type elem size g o' uU C8 ad nr wI cur t cs hu fM hg (by rw[Q];exact hn) Fg rV F;rw[Q] at pa;unfold Oper.wp;simp only[execOp,ho,resolve,invoke,builtin,iI,tI,qK,Ab,jR,pw,hd,hs,pa];exact hK _ _ (h _ (setRow_heap w g cur _ t _ hg) (λb I=>setRow_other w g b _ I) (below_setRow cT bE _))
end
def Da(w:World)(g n m:Nat)(X:Value)(T:TypeId):Prop:=∃zs:List Value,zs.length+m=n/\w.1[g]?=some (.cells (List.replicate m X++zs).toArray T (0,0))
theorem Da.own{w:World}{g n B:Nat}{X:Value}{T:TypeId}(h:Da w g n n X T)(J:B<=g)(hn:n<=maxLen):w.ownsRow B T 1 (.slice g n n) n (List.replicate n X):=by
 obtain⟨zs,hz,hh⟩:=h;have:zs=[]:=ib (by omega);subst this;exact⟨by simp,.inr ⟨g,n,_,rfl,J,hh,bE,hn,by simp,by simp⟩⟩
theorem kB(g o j:Nat):(⟨g,o,none⟩:Addr).add j=⟨g,o+j,none⟩:=Addr.add_lit _ _ _
theorem Se(a:Int)(g o c n:Nat)(w:World)(hn:n<=1000)(hc:w.cell? ⟨g,o,none⟩=some (.int .i64 a))(hg:g<w.1.size):
 Calls prog 64 #[.slice (some ⟨g,o,none⟩) 1 c,.int .i64 n] w λy w'=>(∃u,y=.returned u/\w'.ownsRow w.1.size 3 1 u n (List.replicate n (.int .i64 a)))/\aY w w':=by
 obtain⟨i0,CI,Gf,xj,mJ⟩:=mC Tryz.eG;have R8:∀w2:World,(Instr.makeSlice 36 (.int .i64 (n:Int)) (.int .i64 (n:Int))).run prog w2=_:=λw2=>run_make (P:=prog) w2 36 3 i0 _ underlying36 CI Gf .i64 .i64 (n:Int) (n:Int) (by omega) (wm _) (by rw[mJ];omega) (by omega);simp only[dG,xj,nW] at R8;clear CI Gf xj mJ;have wn:IntKind.u64.wrap (n:Int)=n:=by rw[IntKind.wrap_u64];omega
 have wi:IntKind.i64.wrap (n:Int)=n:=by rw[IntKind.wrap_i64];omega
 go_in;go_wp2_with fail;refine(LW n _ (by omega)).mono ?_;rintro e w1 ⟨rfl,rfl⟩;have Aj:¬((n:Int)>9223372036854775807):=by omega
 go_upto_region 7 with fail
 refine bK λW0 pU=>?_;have DO:Da W0 w1.1.size n 0 (.int .i64 a) 3:=⟨_,size_madeCells _ _,by rw[<-pU];exact np _ _⟩;have J:=Below.eqv pU (cT.alloc bE _);clear pU R8 wn wi Aj;have Ve:W0.cell? ⟨g,o,none⟩=some (.int .i64 a):=(dy (J.block g hg)).trans hc;have gg:g<W0.1.size:=aU hg J.size;replace DO:=U DO;have HB:=U J;clear J;obtain⟨m0,Bw⟩:=cJ (Nat.min 1 n);have lu:m0<=n/\(0<n->0<m0)/\m0<=1:=by subst Bw;exact⟨Aa _ _,λh=>Nat.lt_min.2 ⟨by omega,h⟩,Ae _ _⟩
 change aK _ at Bw;obtain⟨zs,hz,hh⟩:=id DO.Z;go_upto_region 8 with(refine fQ rfl (.tmp 31) (.tmp 32) 36 36 rfl 3 1 underlying36 (by kernel_rfl) w1.1.size 0 n n ⟨g,o,none⟩ 1 c m0 rfl rfl Bw.Z _ 3 hh (List.replicate m0 (.int .i64 a)) (by simp) (λj v hj=>by have R:j<m0:=(by have:=(eD.1 hj).1;simpa using this);obtain rfl:j=0:=(by have:=lu.2.2;omega);rw[kB];rw[xw,aS R] at hj;cases hj;exact Ve) (by simp;have:=lu.1;omega) (λv hv=>by obtain⟨_,rfl⟩:=nR.1 hv;rfl) ?_;intro W1 Az Jn ee)
 have hR:Da W1 w1.1.size n m0 (.int .i64 a) 3:=⟨zs.drop m0,by rw[iQ];have:=lu.1;omega,by rw[Az];simp⟩;have OF:aK (aY w1 W1):=U (HB.trans ee);clear Az Jn ee Ve gg hh hz DO HB hc hg;go_loopg [8] (n-m0) (λq i wr=>∃m:Nat,i=.int .i64 (m:Int)/\m<=n/\(0<n->0<m)/\q=n-m/\Da wr w1.1.size n m (.int .i64 a) 3/\aY w1 wr)
 case atStart=>exact⟨m0,rfl,lu.1,lu.2.1,by omega,hR,OF.Z⟩
 case round=>
  clear hR OF;obtain⟨m,rfl,hmn,xH,Q,hR,J⟩:=hrel;change aK _ at Q;clear lu;by_cases bY:m<n
  ·have Fa:=xH (by omega);obtain⟨d,hd⟩:=cJ (Nat.min m (n-m));have hd1:0<d/\d<=m/\d<=n-m:=by subst hd;exact⟨Nat.lt_min.2 ⟨Fa,by omega⟩,Ae _ _,Aa _ _⟩
   change aK _ at hd;obtain⟨zs,hz,hh⟩:=id hR;have AT:∀j v,(List.replicate d (.int .i64 a))[j]?=some v->wr.drew.cell? ((⟨w1.1.size,0,none⟩:Addr).add j)=some v:=λj v hj=>by
    have R:j<d:=by have:=(eD.1 hj).1;simpa using this
    rw[xw,aS R] at hj;cases hj;rw[kB,iR];refine(aD (w:=wr.drew) hh j).trans ?_;rw[dY,lF (by simp;omega),xw,aS (by omega)]
   change aK _ at AT;go_upto_region 9 with fail
   replace J:=J.drew;have K:=Ext.refl (wr.drew);refine eU 0 (by kernel_rfl) ?_;refine aG [1,2,3,4,5,6] 4 ?_;go_wp2;refine tJ 0 ?_;refine aG [7,8,9] 0 ?_;go_wp2_with (refine fQ rfl (.tmp 41) (.tmp 44) 36 36 rfl 3 1 underlying36 (by kernel_rfl) w1.1.size m (n-m) (n-m) ⟨w1.1.size,0,none⟩ m n d rfl rfl hd.Z _ 3 hh (List.replicate d (.int .i64 a)) (by simp) AT.Z (by simp;omega) (λv hv=>by obtain⟨_,rfl⟩:=nR.1 hv;rfl) ?_;intro W2 ug PE dO);refine eJ ?_;have Gj:Da W2 w1.1.size n (m+d) (.int .i64 a) 3:=⟨zs.drop d,by rw[iQ];omega,by rw[ug];simp[<-List.replicate_append_replicate,wa]⟩;replace Gj:=U Gj;clear ug PE;have ly:=J.trans dO;go_wp2;go_roundg (n-(m+d))
   case rel=>exact⟨m+d,by simp,by omega,λ_=>by omega,rfl,Gj.Z,ly⟩
   case measure=>have:=Q.Z;omega
  ·obtain rfl:m=n:=by omega
   go_wp2;go_ret;exact⟨⟨_,rfl,hR.own bE (by unfold maxLen;omega)⟩,J⟩
theorem Tryz.MU:(prog.info? 4).map (λi=>(i.zero,i.size,i.bytes))=some (some (.bool false),1,1):=by kernel_rfl
theorem Sf(a:Bool)(g o c n:Nat)(w:World)(hn:n<=1000)(hc:w.cell? ⟨g,o,none⟩=some (.bool a))(hg:g<w.1.size):
 Calls prog 170 #[.slice (some ⟨g,o,none⟩) 1 c,.int .i64 n] w λy w'=>(∃u,y=.returned u/\w'.ownsRow w.1.size 4 1 u n (List.replicate n (.bool a)))/\aY w w':=by
 obtain⟨i0,CI,Gf,xj,mJ⟩:=mC Tryz.MU;have R8:∀w2:World,(Instr.makeSlice 110 (.int .i64 (n:Int)) (.int .i64 (n:Int))).run prog w2=_:=λw2=>run_make (P:=prog) w2 110 4 i0 _ underlying110 CI Gf .i64 .i64 (n:Int) (n:Int) (by omega) (wm _) (by rw[mJ];omega) (by omega);simp only[dG,xj,nW] at R8;clear CI Gf xj mJ;have wn:IntKind.u64.wrap (n:Int)=n:=by rw[IntKind.wrap_u64];omega
 have wi:IntKind.i64.wrap (n:Int)=n:=by rw[IntKind.wrap_i64];omega
 go_in;go_wp2_with fail;refine(LW n _ (by omega)).mono ?_;rintro e w1 ⟨rfl,rfl⟩;have Aj:¬((n:Int)>9223372036854775807):=by omega
 go_upto_region 7 with fail
 refine bK λW0 pU=>?_;have DO:Da W0 w1.1.size n 0 (.bool a) 4:=⟨_,size_madeCells _ _,by rw[<-pU];exact np _ _⟩;have J:=Below.eqv pU (cT.alloc bE _);clear pU R8 wn wi Aj;have Ve:W0.cell? ⟨g,o,none⟩=some (.bool a):=(dy (J.block g hg)).trans hc;have gg:g<W0.1.size:=aU hg J.size;replace DO:=U DO;have HB:=U J;clear J;obtain⟨m0,Bw⟩:=cJ (Nat.min 1 n);have lu:m0<=n/\(0<n->0<m0)/\m0<=1:=by subst Bw;exact⟨Aa _ _,λh=>Nat.lt_min.2 ⟨by omega,h⟩,Ae _ _⟩
 change aK _ at Bw;obtain⟨zs,hz,hh⟩:=id DO.Z;go_upto_region 8 with(refine fQ rfl (.tmp 31) (.tmp 32) 110 110 rfl 4 1 underlying110 (by kernel_rfl) w1.1.size 0 n n ⟨g,o,none⟩ 1 c m0 rfl rfl Bw.Z _ 4 hh (List.replicate m0 (.bool a)) (by simp) (λj v hj=>by have R:j<m0:=(by have:=(eD.1 hj).1;simpa using this);obtain rfl:j=0:=(by have:=lu.2.2;omega);rw[kB];rw[xw,aS R] at hj;cases hj;exact Ve) (by simp;have:=lu.1;omega) (λv hv=>by obtain⟨_,rfl⟩:=nR.1 hv;rfl) ?_;intro W1 Az Jn ee)
 have hR:Da W1 w1.1.size n m0 (.bool a) 4:=⟨zs.drop m0,by rw[iQ];have:=lu.1;omega,by rw[Az];simp⟩;have OF:aK (aY w1 W1):=U (HB.trans ee);clear Az Jn ee Ve gg hh hz DO HB hc hg;go_loopg [8] (n-m0) (λq i wr=>∃m:Nat,i=.int .i64 (m:Int)/\m<=n/\(0<n->0<m)/\q=n-m/\Da wr w1.1.size n m (.bool a) 4/\aY w1 wr)
 case atStart=>exact⟨m0,rfl,lu.1,lu.2.1,by omega,hR,OF.Z⟩
 case round=>
  clear hR OF;obtain⟨m,rfl,hmn,xH,Q,hR,J⟩:=hrel;change aK _ at Q;clear lu;by_cases bY:m<n
  ·have Fa:=xH (by omega);obtain⟨d,hd⟩:=cJ (Nat.min m (n-m));have hd1:0<d/\d<=m/\d<=n-m:=by subst hd;exact⟨Nat.lt_min.2 ⟨Fa,by omega⟩,Ae _ _,Aa _ _⟩
   change aK _ at hd;obtain⟨zs,hz,hh⟩:=id hR;have AT:∀j v,(List.replicate d (.bool a))[j]?=some v->wr.drew.cell? ((⟨w1.1.size,0,none⟩:Addr).add j)=some v:=λj v hj=>by
    have R:j<d:=by have:=(eD.1 hj).1;simpa using this
    rw[xw,aS R] at hj;cases hj;rw[kB,iR];refine(aD (w:=wr.drew) hh j).trans ?_;rw[dY,lF (by simp;omega),xw,aS (by omega)]
   change aK _ at AT;go_upto_region 9 with fail
   replace J:=J.drew;have K:=Ext.refl (wr.drew);refine eU 0 (by kernel_rfl) ?_;refine aG [1,2,3,4,5,6] 4 ?_;go_wp2;refine tJ 0 ?_;refine aG [7,8,9] 0 ?_;go_wp2_with (refine fQ rfl (.tmp 41) (.tmp 44) 110 110 rfl 4 1 underlying110 (by kernel_rfl) w1.1.size m (n-m) (n-m) ⟨w1.1.size,0,none⟩ m n d rfl rfl hd.Z _ 4 hh (List.replicate d (.bool a)) (by simp) AT.Z (by simp;omega) (λv hv=>by obtain⟨_,rfl⟩:=nR.1 hv;rfl) ?_;intro W2 ug PE dO);refine eJ ?_;have Gj:Da W2 w1.1.size n (m+d) (.bool a) 4:=⟨zs.drop d,by rw[iQ];omega,by rw[ug];simp[<-List.replicate_append_replicate,wa]⟩;replace Gj:=U Gj;clear ug PE;have ly:=J.trans dO;go_wp2;go_roundg (n-(m+d))
   case rel=>exact⟨m+d,by simp,by omega,λ_=>by omega,rfl,Gj.Z,ly⟩
   case measure=>have:=Q.Z;omega
  ·obtain rfl:m=n:=by omega
   go_wp2;go_ret;exact⟨⟨_,rfl,hR.own bE (by unfold maxLen;omega)⟩,J⟩
namespace Gr
def step(l:List (Int×Int))(n:Nat)(st:List Int×List Int)(i:Int):List Int×List Int:=
 if st.1.getD (at_ l i.toNat).2.toNat 0<0 then(st.1.set (at_ l i.toNat).2.toNat (st.1.getD n 0+1),st.2++[(at_ l i.toNat).2]) else st
def Vt(l:List (Int×Int)):Nat->List Int->List Int->List Int
 |0,Z,_=>Z
 |_+1,Z,[]=>Z
 |k+1,Z,q::qs=>Vt l k ((outs l q).foldl (step l q.toNat) (Z,qs)).1 ((outs l q).foldl (step l q.toNat) (Z,qs)).2
def PF(N:Nat)(l:List (Int×Int))(src:Nat):List Int:=if src<N then Vt l (2 * N+1) ((List.replicate N (-1)).set src 0) [(src:Int)] else[]
def neg(Z:List Int):Nat:=(Z.filter (λx=>decide (x<0))).length
def mu(st:List Int×List Int):Nat:=2 * neg st.1+st.2.length
structure Fu(N k:Nat)(Z q:List Int):Prop where
 len:Z.length=N
 low:∀x∈Z,-1<=x
 high:∀x∈Z,x+(k:Int)<=3000
 qs:∀x∈q,0<=x/\x<N
 mu:mu (Z,q)<=k
theorem LX:∀ {Z:List Int} {i:Nat} {x:Int},Z.getD i 0<0->0<=x->neg (Z.set i x)+1=neg Z
 |[],i,x,h,_=>by simp at h
 |y::Z,0,x,h,D=>by
  have hy:y<0:=by simpa using h
  unfold neg;simp[hy,show ¬x<0 by omega]
 |y::Z,i+1,x,h,D=>by
  have ih:=LX (Z:=Z) (i:=i) (by simpa using h) D;unfold neg at ih⊢;by_cases hy:y<0<;>simp[hy]<;>omega
theorem Bz{Z:List Int}{i:Nat}(h:i<Z.length):Z.getD i 0∈Z:=by
 rw[dB,eu h];exact nc h
structure PG(l:List (Int×Int))(N k n:Nat)(Z q:List Int):Prop where
 inv:Fu N k Z q
 own:Z.getD n 0+(k:Int)+1<=3000
 n:n<N
 k:k<3000
theorem PG.step{l:List (Int×Int)}{N k n:Nat}{Z q:List Int}{i:Int}(h:PG l N k n Z q)(hi:0<=(at_ l i.toNat).2/\(at_ l i.toNat).2<N):PG l N k n (Gr.step l n (Z,q) i).1 (Gr.step l n (Z,q) i).2:=by
 obtain⟨⟨F,R,h3,h4,h5⟩,h6,h7,h8⟩:=h;unfold Gr.step;simp only;generalize (at_ l i.toNat).2=t at hi;have ht:t.toNat<Z.length:=by omega
 split
 ·rename_i hc;have hv:=R _ (Bz (by omega:n<Z.length));have hg:(Z.set t.toNat (Z.getD n 0+1)).getD n 0=if t.toNat=n then Z.getD n 0+1 else Z.getD n 0:=by
   rw[dB,List.getElem?_set];split
   ·rename_i e;subst e;simp[ht]
   ·rw[<-dB]
  refine⟨⟨by simpa using F,λx D=>?_,λx D=>?_,λx D=>?_,?_⟩,?_,h7,h8⟩
  ·rcases kJ D with D|rfl
   ·exact R x D
   ·omega
  ·rcases kJ D with D|rfl
   ·exact h3 x D
   ·omega
  ·rcases nf.1 D with D|D
   ·exact h4 x D
   ·simp at D;subst D;exact hi
  ·have:=LX (Z:=Z) (i:=t.toNat) (x:=Z.getD n 0+1) hc (by omega);unfold Gr.mu at h5⊢;rw[dh];simp only[fF,nj] at h5⊢;omega
  ·rw[hg];split
   ·rename_i e;subst e;omega
   ·exact h6
 ·exact⟨⟨F,R,h3,h4,h5⟩,h6,h7,h8⟩
theorem Fu.pop{l:List (Int×Int)}{N k:Nat}{Z qs:List Int}{q:Int}(h:Fu N (k+1) Z (q::qs))(Q:k<3000):PG l N k q.toNat Z qs:=by
 obtain⟨F,R,h3,h4,h5⟩:=h;have hq:=h4 q (by simp);refine⟨⟨F,R,λx D=>by have:=h3 x D;omega,λx D=>h4 x (by simp[D]),?_⟩,?_,by omega,Q⟩
 ·unfold Gr.mu at h5⊢;simp only[fF] at h5⊢;omega
 ·have:=h3 _ (Bz (by omega:q.toNat<Z.length));omega
theorem Fu.pos{N k:Nat}{Z qs:List Int}{q:Int}(h:Fu N k Z (q::qs)):∃k',k=k'+1:=⟨k-1,by have:=h.mu;unfold Gr.mu at this;simp at this;omega⟩
theorem Fu.start{N src:Nat}(hs:src<N)(hN:N<=1000):Fu N (2 * N+1) ((List.replicate N (-1)).set src 0) [(src:Int)]:=by
 refine⟨by simp,λx D=>?_,λx D=>?_,λx D=>by simp at D;subst D;omega,?_⟩
 ·rcases kJ D with D|rfl
  ·rw[(nR.1 D).2];omega
  ·omega
 ·rcases kJ D with D|rfl
  ·rw[(nR.1 D).2];omega
  ·omega
 ·unfold Gr.mu Gr.neg;have:=zR (λx:Int=>decide (x<0)) ((List.replicate N (-1)).set src 0);simp at this⊢;omega
theorem Sg(l:List (Int×Int))(Z:List Int):∀k,Vt l k Z []=Z
 |0=>rfl
 |_+1=>rfl
end Gr
end Go.Proofs.YtmgahjkopiaglaaGreat
