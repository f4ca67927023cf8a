/- Lemmas, walks and contracts by which the statement is proved. -/
import Derived.Test.YtmgahjkopiaglaaGreatK23
set_option maxRecDepth 100000
set_option maxHeartbeats 16000000
set_option linter.all false
namespace Go.Proofs.YtmgahjkopiaglaaGreat
open Go.RowKit Go.Proofs.Tryz
section
variable{P:Program}{w:World}{ops:Array Oper}{rest:List Oper}{o:Oper}{a:Act}{ao:Exit->Act->World->Prop}
theorem dv{α:Type}{r:Y α}{S:Nat->Prop}{xs:List α}{y:α}(o7:o.guard=none)(s x:Operand)(t:TypeId)(ho:o.op=.call {callee:=.builtin .append,args:=#[s,x],argTypes:=#[t,t]})
 (B:Nat)(e:TypeId){z:Value}{bytes:Nat}(fU:(P.info? e).map (λi=>(i.zero,i.size,i.bytes))=some (some z,r.size,bytes))(ht:P.underlying t=some (.slice e))
 (nZ:z.cells.size=r.size)(E6:bytes<=1000)(v:Value)(hs:a.eval s=v)(ct:cj r e B w S v xs)(hS:∀b,S b->b<w.1.size)(J:B<=w.1.size)
 (c ar:Nat)(cs:List Value)(D:a.eval x=.slice ar 1 c)(fP:G w ar cs.toArray e)(jr:r.is false w S cs y)(hn:xs.length<=1000000)
 (h:∀v' w',cj r e B w' S v' (xs++[y])->w.grownBy w' v.ownBlock->Below B w w'->(v'.ownBlock=v.ownBlock\/v'.ownBlock=some w.1.size)->wpList P ops ao rest (a.put o.dst v') w'):wpList P ops ao (o::rest) a w:=by
 obtain⟨cells,F,R,h3⟩:=ct;refine px o7 λ_ hK=>mE s x t ho B e fU ht nZ r.pos v xs.length cells hs F (some ⟨ar,0,none⟩) 1 c cs D (by rw[r.len jr];omega) (λ_=>⟨ar,0,rfl,λj u hj=>by rw[iR];exact(aD fP j).trans (by simpa using hj)⟩) (r.one jr) (by unfold maxLen;omega) (bT (pq (show xs.length+1<=1000001 by omega) E6) (by omega)) J ?_;intro v' w' k1 k2 k3 k4;have Q:∀b,S b->w'.1[b]?=w.1[b]?:=λb q=>k2.block b (hS b q) λhe=>h3 b he.symm q;have fz:∀b,v'.ownBlock=some b->¬S b:=λb I q=>by
  rcases k4 with k4|k4
  ·exact h3 b (k4▸I) q
  ·rw[k4] at I;cases I;exact absurd (hS _ q) (wh _)
 exact hK _ _ (h v' w' ⟨cells++cs,by rw[dh];exact k1,Y.sm (Y.ej Q R) (r.aE jr Q),fz⟩ k2 k3 k4)
end
theorem cj.grown{α:Type}{r:Y α}{e e':TypeId}{B:Nat}{w w':World}{S:Nat->Prop}{v:Value}{xs:List α}{o:Option Nat}(h:cj r e B w S v xs)(hg:w.grownBy w' o)(hS:∀b,S b->b<w.1.size/\o≠some b)(ho:∀b,o=some b->∃cur,w.1[b]?=some (.cells cur e' (0,0)))(fz:e≠e'):cj r e B w' S v xs:=
 h.aE λb q=>q.elim (λq=>hg.block b (hS b q).1 λe=>(hS b q).2 e.symm) λq=>hg.block b (h.lt b q).2 λe=>by
  obtain⟨c1,F⟩:=h.type q;obtain⟨c2,R⟩:=ho b e.symm;exact eH F R fz rfl
def XN(lo:Nat)(w:World)(v1 v2:Value):Nat->Prop:=λb=>lo<=b/\b<w.1.size/\v1.ownBlock≠some b/\v2.ownBlock≠some b
def pj(lo:Nat)(w:World)(v1 v2:Value)(ss:List Int)(ms:List (List (Int×Int))):Prop:=
 cj Y.int 3 lo w (λ_=>False) v1 ss/\cj Y.msg.slice 93 lo w (XN lo w v1 v2) v2 ms
theorem pj.same{lo:Nat}{w w':World}{v1 v2:Value}{ss:List Int}{ms:List (List (Int×Int))}(h:pj lo w v1 v2 ss ms)(hs:w.1.size<=w'.1.size)(Q:∀b,lo<=b->b<w.1.size->w'.1[b]?=w.1[b]?):pj lo w' v1 v2 ss ms:=
 have h3:∀b,v2.ownBlock=some b->¬XN lo w v1 v2 b:=λb e q=>q.2.2.2 e
 ⟨h.1.aE λb q=>q.elim False.elim λq=>Q b (h.1.lt b q).1 (h.1.lt b q).2,
  (h.2.aE λb q=>q.elim (λq=>Q b q.1 q.2.1) λq=>Q b (h.2.lt b q).1 (h.2.lt b q).2).aF (λb q=>⟨q.1,aU q.2.1 hs,q.2.2⟩) λb e q=>q.2.2.2 e⟩
theorem pj.next{lo:Nat}{w w':World}{v1 v2:Value}{ss:List Int}{ms:List (List (Int×Int))}(h:pj lo w v1 v2 ss ms)(I:aY w w'):pj lo w' v1 v2 ss ms:=h.same I.size λb _ q=>I.block b q
instance{lo:Nat}{w w':World}{v1 v2:Value}{ss:List Int}{ms:List (List (Int×Int))}:Nx w w' (pj lo w v1 v2 ss ms) (pj lo w' v1 v2 ss ms):=⟨λq p=>p.next q⟩
theorem pj.one{lo:Nat}{w w':World}{v1 v1' v2:Value}{ss ss':List Int}{ms:List (List (Int×Int))}(h:pj lo w v1 v2 ss ms)(F:cj Y.int 3 lo w' (λ_=>False) v1' ss')(hg:w.grownBy w' v1.ownBlock)(hn:v1'.ownBlock=v1.ownBlock\/v1'.ownBlock=some w.1.size):pj lo w' v1' v2 ss' ms:=
 ⟨F,(h.2.grown hg (λb q=>⟨q.2.1,q.2.2.1⟩) (λb e=>h.1.type e) (by decide)).aF (λb q=>⟨q.1,aU q.2.1 hg.size,λe=>hn.elim (λk=>q.2.2.1 (k▸e)) (λk=>by rw[k] at e;cases e;exact absurd q.2.1 (wh _)),q.2.2.2⟩) λb e q=>q.2.2.2 e⟩
theorem pj.two{lo:Nat}{w w':World}{v1 v2 v2':Value}{ss:List Int}{ms RY:List (List (Int×Int))}(h:pj lo w v1 v2 ss ms)(R:cj Y.msg.slice 93 lo w' (XN lo w v1 v2) v2' RY)(hg:w.grownBy w' v2.ownBlock)(hn:v2'.ownBlock=v2.ownBlock\/v2'.ownBlock=some w.1.size):pj lo w' v1 v2' ss RY:=
 ⟨h.1.grown hg (λ_ q=>q.elim) (λb e=>h.2.type e) (by decide),R.aF (λb q=>⟨q.1,aU q.2.1 hg.size,q.2.2.1,λe=>hn.elim (λk=>q.2.2.2 (k▸e)) (λk=>by rw[k] at e;cases e;exact absurd q.2.1 (wh _))⟩) λb e q=>q.2.2.2 e⟩
structure BI(W:World)(lo:Nat)(v1 v2 uv:Value)(ss:List Int)(ms:List (List (Int×Int)))(s1:Int)(m1:List (Int×Int))(AR:Value)(m:Nat)(y:World)(x3 x4 x6 x8 x9 qa:Value):Prop where
 b3:dw m 3 (∃ar,x3=.slice (some ⟨ar,0,none⟩) 1 1/\(m.testBit 9=false->G y ar #[s1] 3)/\W.1.size<=ar)
 b4:dw m 4 ((m.testBit 9=false->pj lo y x4 v2 (ss++[s1]) ms)/\(x4.ownBlock=v1.ownBlock\/∃b,x4.ownBlock=some b/\W.1.size<=b))
 n4:m.testBit 4=false->pj lo y v1 v2 ss ms
 b6:dw m 6 (x6=v2)
 b8:dw m 8 (∃ar,x8=.slice (some ⟨ar,0,none⟩) 1 1/\(m.testBit 9=false->G y ar #[uv] 93)/\W.1.size<=ar)
 b9:dw m 9 (pj lo y x4 x9 (ss++[s1]) (ms++[m1])/\∃y0,W.grownBy y0 v1.ownBlock/\y0.grownBy y v2.ownBlock)
 Jk:dw m 10 (qa=AR)
 g:m.testBit 9=false->W.grownBy y v1.ownBlock
 nine:m.testBit 9=true->m.testBit 3=true/\m.testBit 4=true/\m.testBit 6=true/\m.testBit 8=true
 Y':m.testBit 4=true->m.testBit 3=true
 sz:W.1.size<=y.1.size
 XO:lo<=W.1.size
 lw:∀b,v1.ownBlock=some b->lo<=b/\b<W.1.size
section
variable{W y:World}{lo:Nat}{v1 v2 uv AR:Value}{ss:List Int}{ms:List (List (Int×Int))}{s1:Int}{m1:List (Int×Int)}{m:Nat}{x3 x4 x6 x8 x9 qa:Value}
theorem BI.start(h:pj lo W v1 v2 ss ms)(hl:lo<=W.1.size)(h3:m.testBit 3=false)(h4:m.testBit 4=false)(h6:m.testBit 6=false)(h8:m.testBit 8=false)(h9:m.testBit 9=false)(Ho:m.testBit 10=false):BI W lo v1 v2 uv ss ms s1 m1 AR m W x3 x4 x6 x8 x9 qa:=
 ⟨dw.none h3,dw.none h4,λ_=>h,dw.none h6,dw.none h8,dw.none h9,dw.none Ho,λ_=>ka _ _,λq=>(by rw[h9] at q;cases q),λq=>(by rw[h4] at q;cases q),bE,hl,h.1.lt⟩
theorem km{m i j:Nat}(h:m.testBit i=true):(m|||2^j).testBit i=true:=by rw[pO,h,Bool.true_or]
theorem BI.Qr(h:BI W lo v1 v2 uv ss ms s1 m1 AR m y x3 x4 x6 x8 x9 qa)(h4:m.testBit 4=true):m.testBit 3=true:=h.Y' h4
theorem BI.three(h:BI W lo v1 v2 uv ss ms s1 m1 AR m y x3 x4 x6 x8 x9 qa)(hm:m.testBit 3=false):BI W lo v1 v2 uv ss ms s1 m1 AR (m|||2^3) (y.alloc (.cells #[s1] 3)) (.slice y.1.size 1 1) x4 x6 x8 x9 qa:=
 have I:aY y (y.alloc (.cells #[s1] 3)):=cT.alloc bE _;have n9:m.testBit 9=false:=(by cases q:m.testBit 9 with |false=>rfl |true=>rw[(h.nine q).1] at hm;cases hm)
 ⟨dw.now ⟨_,rfl,λ_=>G.new _ _ _,h.sz⟩,h.b4.other (by decide) λq=>⟨λ_=>(q.1 n9).next I,q.2⟩,λq=>(h.n4 (by rwa[aW (by decide)] at q)).next I,h.b6.other (by decide) id,h.b8.other (by decide) λ⟨ar,q1,q2,q3⟩=>⟨ar,q1,λ_=>(q2 n9).next I,q3⟩,
  dw.none (by rw[aW (by decide)];exact n9),h.Jk.other (by decide) id,λ_=>aN (h.g n9) (aT I),λq=>(by rw[aW (by decide),n9] at q;cases q),λ_=>kI,bT h.sz I.size,h.XO,h.lw⟩
theorem BI.eight(h:BI W lo v1 v2 uv ss ms s1 m1 AR m y x3 x4 x6 x8 x9 qa)(hm:m.testBit 8=false):BI W lo v1 v2 uv ss ms s1 m1 AR (m|||2^8) (y.alloc (.cells #[uv] 93)) x3 x4 x6 (.slice y.1.size 1 1) x9 qa:=
 have I:aY y (y.alloc (.cells #[uv] 93)):=cT.alloc bE _;have n9:m.testBit 9=false:=(by cases q:m.testBit 9 with |false=>rfl |true=>rw[(h.nine q).2.2.2] at hm;cases hm)
 ⟨h.b3.other (by decide) λ⟨ar,q1,q2,q3⟩=>⟨ar,q1,λ_=>(q2 n9).next I,q3⟩,h.b4.other (by decide) λq=>⟨λ_=>(q.1 n9).next I,q.2⟩,λq=>(h.n4 (by rwa[aW (by decide)] at q)).next I,h.b6.other (by decide) id,dw.now ⟨_,rfl,λ_=>G.new _ _ _,h.sz⟩,
  dw.none (by rw[aW (by decide)];exact n9),h.Jk.other (by decide) id,λ_=>aN (h.g n9) (aT I),λq=>(by rw[aW (by decide),n9] at q;cases q),λq=>km (h.Y' (by rwa[aW (by decide)] at q)),bT h.sz I.size,h.XO,h.lw⟩
theorem BI.xI(h:BI W lo v1 v2 uv ss ms s1 m1 AR m y x3 x4 x6 x8 x9 qa)(hm:m.testBit 6=false):BI W lo v1 v2 uv ss ms s1 m1 AR (m|||2^6) y x3 x4 v2 x8 x9 qa:=
 have n9:m.testBit 9=false:=(by cases q:m.testBit 9 with |false=>rfl |true=>rw[(h.nine q).2.2.1] at hm;cases hm)
 ⟨h.b3.other (by decide) λ⟨ar,q1,q2,q3⟩=>⟨ar,q1,λ_=>q2 n9,q3⟩,h.b4.other (by decide) λq=>⟨λ_=>q.1 n9,q.2⟩,λq=>h.n4 (by rwa[aW (by decide)] at q),dw.now rfl,h.b8.other (by decide) λ⟨ar,q1,q2,q3⟩=>⟨ar,q1,λ_=>q2 n9,q3⟩,
  dw.none (by rw[aW (by decide)];exact n9),h.Jk.other (by decide) id,λ_=>h.g n9,λq=>(by rw[aW (by decide),n9] at q;cases q),λq=>km (h.Y' (by rwa[aW (by decide)] at q)),h.sz,h.XO,h.lw⟩
theorem BI.ten(h:BI W lo v1 v2 uv ss ms s1 m1 AR m y x3 x4 x6 x8 x9 qa):BI W lo v1 v2 uv ss ms s1 m1 AR (m|||2^10) y x3 x4 x6 x8 x9 AR:=
 have e9:(m|||2^10).testBit 9=m.testBit 9:=aW (by decide)
 ⟨h.b3.other (by decide) (by rw[e9];exact id),h.b4.other (by decide) (by rw[e9];exact id),λq=>h.n4 (by rwa[aW (by decide)] at q),h.b6.other (by decide) id,h.b8.other (by decide) (by rw[e9];exact id),
  h.b9.other (by decide) id,dw.now rfl,λq=>h.g (e9▸q),λq=>(λt=>⟨km t.1,km t.2.1,km t.2.2.1,km t.2.2.2⟩) (h.nine (e9▸q)),λq=>km (h.Y' (by rwa[aW (by decide)] at q)),h.sz,h.XO,h.lw⟩
theorem BI.four{v':Value}{w':World}(h:BI W lo v1 v2 uv ss ms s1 m1 AR m y x3 x4 x6 x8 x9 qa)(hm:m.testBit 4=false)(q3:m.testBit 3=true)(F:cj Y.int 3 lo w' (λ_=>False) v' (ss++[s1]))(hg:y.grownBy w' v1.ownBlock)(hn:v'.ownBlock=v1.ownBlock\/v'.ownBlock=some y.1.size):BI W lo v1 v2 uv ss ms s1 m1 AR (m|||2^4) w' x3 v' x6 x8 x9 qa:=
 have Bu:∀b,v1.ownBlock=some b->b<W.1.size:=λb e=>(h.lw b e).2;have n9:m.testBit 9=false:=(by cases q:m.testBit 9 with |false=>rfl |true=>rw[(h.nine q).2.1] at hm;cases hm)
 ⟨h.b3.other (by decide) λ⟨ar,q1,q2,q3⟩=>⟨ar,q1,λ_=>(q2 n9).grown hg (λe=>(by have:=Bu _ e;omega)),q3⟩,dw.now ⟨λ_=>(h.n4 hm).one F hg hn,hn.imp id λe=>⟨_,e,h.sz⟩⟩,λq=>(by rw[kI] at q;cases q),h.b6.other (by decide) id,
  h.b8.other (by decide) λ⟨ar,q1,q2,q3⟩=>⟨ar,q1,λ_=>(q2 n9).grown hg (λe=>(by have:=Bu _ e;omega)),q3⟩,dw.none (by rw[aW (by decide)];exact n9),h.Jk.other (by decide) id,λ_=>aN (h.g n9) hg,λq=>(by rw[aW (by decide),n9] at q;cases q),λ_=>km q3,bT h.sz hg.size,h.XO,h.lw⟩
theorem BI.append{v':Value}{w':World}(h:BI W lo v1 v2 uv ss ms s1 m1 AR m y x3 x4 x6 x8 x9 qa)(hm:m.testBit 9=false)(q3:m.testBit 3=true)(q4:m.testBit 4=true)(q6:m.testBit 6=true)(q8:m.testBit 8=true)
 (R:cj Y.msg.slice 93 lo w' (XN lo y x4 v2) v' (ms++[m1]))(hg:y.grownBy w' v2.ownBlock)(hn:v'.ownBlock=v2.ownBlock\/v'.ownBlock=some y.1.size):BI W lo v1 v2 uv ss ms s1 m1 AR (m|||2^9) w' x3 x4 x6 x8 v' qa:=
 have n9:∀ {φ:Prop},(m|||2^9).testBit 9=false->φ:=λq=>(by rw[kI] at q;cases q)
 ⟨h.b3.other (by decide) λ⟨ar,k1,_,k3⟩=>⟨ar,k1,n9,k3⟩,h.b4.other (by decide) λq=>⟨n9,q.2⟩,λq=>(by rw[aW (by decide),q4] at q;cases q),h.b6.other (by decide) id,h.b8.other (by decide) λ⟨ar,k1,_,k3⟩=>⟨ar,k1,n9,k3⟩,
  dw.now ⟨((h.b4 q4).1 hm).two R hg hn,y,h.g hm,hg⟩,h.Jk.other (by decide) id,n9,λ_=>⟨km q3,km q4,km q6,km q8⟩,λq=>km (h.Y' (by rwa[aW (by decide)] at q)),bT h.sz hg.size,h.XO,h.lw⟩
end
theorem td{a:Ap}{l:List Pc.bG}{iU:Bool}:∀ {j:Nat} {ss:List Int} {ms:List (List (Int×Int))},V.jH a l iU j=some (ss,ms)->ss.length=j/\ms.length=j
 |0,ss,ms,h=>by cases h;exact⟨rfl,rfl⟩
 |j+1,ss,ms,h=>by
  unfold V.jH at h;split at h
  ·cases h
  ·next s1 m1 F=>
   split at h
   ·cases h
   ·have:=td F;cases h;simp;exact this
theorem FQ{a:Ap}{l:List Pc.bG}{iU:Bool}{j:Nat}(h:V.jH a l iU j=none):∀ {n:Nat},j<=n->V.jH a l iU n=none
 |n,hn=>by
  induction hn with
  |refl=>exact h
  |step _ ih=>unfold V.jH;rw[ih]
theorem FR{a:Ap}{l:List Pc.bG}{iU:Bool}{j n:Nat}{r:List Int×List (List (Int×Int))}(h:V.jH a l iU j=some r)(R:V.sU a l j iU=none)(hn:j<n):V.jH a l iU n=none:=
 FQ (by unfold V.jH;rw[h,R]) (show j+1<=n from hn)
theorem KZ{a:Ap}{l:List Pc.bG}{iU:Bool}{j:Nat}{ss:List Int}{ms:List (List (Int×Int))}{s:Int}{m:List (Int×Int)}(h:V.jH a l iU j=some (ss,ms))(R:V.sU a l j iU=some (s,m)):V.jH a l iU (j+1)=some (ss++[s],ms++[m]):=by
 unfold V.jH;rw[h,R]
theorem Ii{P:Program}{fn:Func}{tmps:Array Value}{av:Ending->World->Prop}{ds:List Deferred}{u:FrameMode}{w:World}(h:∀W,w=W->Leaves P fn tmps av ds u W):Leaves P fn tmps av ds u w:=h w rfl
theorem jZ{w w' qp:World}{o r:Option Nat}(h:w.grownBy w' o)(hg:w'.grownBy qp r)(hr:∀k,r=some k->w.1.size<=k):w.grownBy qp o:=
 ⟨hg.os.trans h.os,hg.tape.trans h.tape,hg.output.trans h.output,bT h.size hg.size,λk Q fz=>(hg.block k (aU Q h.size) λe=>by have:=hr k e.symm;omega).trans (h.block k Q fz)⟩
theorem FT(w:World):(Instr.typeAssert (.iface 276 (.agg #[])) 20 276 true).run prog w=.ok (.tuple #[.agg #[],true]) w:=by kernel_rfl
theorem Ij(w:World):(Instr.typeAssert .nilIface 20 276 true).run prog w=.ok (.tuple #[.agg #[],false]) w:=by kernel_rfl
theorem zM(g h:Nat)(x0 x1 x2 x3:Value)(Er:List PanicEntry)(w:World)(hc:G w g #[x0,x1,x2] 39)(he:G w h #[x3] 42)(hgh:g<h):
 CallsD prog 159 #[.pointer g,.pointer h] (.panicking ({v:=.iface 276 (.agg #[]),recovered:=false}::Er)) w λy u' w'=>
  y=.returned (.tuple #[])/\u'=.panicking ({v:=.iface 276 (.agg #[]),recovered:=true}::Er)/\w'=((((w.setCell ⟨g,0,none⟩ (.slice none 0 0)).setCell ⟨g,1,none⟩ (.slice none 0 0)).setCell ⟨g,2,none⟩ (.slice none 0 0)).setCell ⟨h,0,none⟩ (.int .i64 4)).alloc (.cells #[] 276):=by
 have ha:=FT;have n1:h≠g:=by omega
 have n2:g≠h:=by omega
 have O:=eE hc he;refine callsD_of_wpS func159 rfl λND cs hu=>?_;simp only[ntmps159,jN,fF,nj,Nat.reduceAdd,Nat.reduceSub,tx,
  xz,tE,tz,gh,nU]
 apply wpS_seq;apply wpS_region;simp[wpOpsS,go_sem,recoverD,hu,Exit.thenS,ha];refine wpS_of_wp ?_;go_wp2;exact⟨rfl,_,rfl,_,by simp[results,results159],rfl,rfl,rfl⟩
theorem K0(p q:Option Addr)(w:World):
 CallsD prog 159 #[.pointer p,.pointer q] .returning w λy u' w'=>y=.returned (.tuple #[])/\u'=.returning/\w'=w.alloc (.cells #[] 276):=by
 have ha:=Ij;refine callsD_of_wpS func159 rfl λND cs hu=>?_;simp only[ntmps159,jN,fF,nj,Nat.reduceAdd,Nat.reduceSub,tx,
  xz,tE,tz,gh,nU]
 apply wpS_seq;apply wpS_region;simp[wpOpsS,go_sem,recoverD,hu,Exit.thenS,ha];refine wpS_of_wp ?_;go_wp2;exact⟨rfl,.returning,by cases ND;simp_all,_,by simp[results,results159],rfl,rfl,rfl⟩
theorem xW{fn:Func}{tmps:Array Value}{av:Ending->World->Prop}{g h:Nat}{x0 x1 x2 x3:Value}{w:World}(hc:G w g #[x0,x1,x2] 39)(he:G w h #[x3] 42)(hgh:g<h)
 (hR:∀w',G w' g #[(),(),()] 39->G w' h #[.int .i64 4] 42->Below g w w'->∃v,(results fn tmps).run prog w'=.ok v w'/\av (.returned v) w'):
 Leaves prog fn tmps av [{target:=.fn (.func 159) #[.pointer g,.pointer h],args:=#[]}] (.panicking [{v:=.iface 276 (.agg #[]),recovered:=false}]) w:=by
 refine leaves_cons (f:=159) (args:=#[.pointer g,.pointer h]) (by simp) (by simp[go_sem]) ?_;refine(zM g h x0 x1 x2 x3 [] w hc he hgh).mono ?_;rintro y u' qp ⟨rfl,rfl,rfl⟩;refine hR _ ?_ ?_ ?_
 ·exact((((hc.bd 0 _).bd 1 _).bd 2 _).dE (by omega) 0 _).alloc _
 ·exact((((he.dE (by omega) 0 _).dE (by omega) 1 _).dE (by omega) 2 _).bd 0 _).alloc _
 ·have:=hc.lt;exact(((((bI g w).setCell bE _).setCell bE _).setCell bE _).setCell (by show g<=h;omega) _).alloc (by simp[World.setCell];omega) _
theorem K2{fn:Func}{tmps:Array Value}{av:Ending->World->Prop}{p q:Option Addr}{w:World}
 (hR:∀w',aY w w'->∃v,(results fn tmps).run prog w'=.ok v w'/\av (.returned v) w'):
 Leaves prog fn tmps av [{target:=.fn (.func 159) #[.pointer p,.pointer q],args:=#[]}] .returning w:=by
 refine leaves_cons (f:=159) (args:=#[.pointer p,.pointer q]) (by simp) (by simp[go_sem]) ?_;refine(K0 p q w).mono ?_;rintro y u' qp ⟨rfl,rfl,rfl⟩;exact hR _ (cT.alloc bE _)
theorem K3(va:Value)(a:Ap)(l:List Pc.bG)(A:Option Addr)(k:Nat)(iU:Bool)(w:World)(S:Nat->Prop)(hS:∀b,S b->b<w.1.size)(ha:da Y.ap w S va a)(hl:ay Y.piece false w S (.slice A l.length k) l)(hL:a.az.length<=1000)(hT:Tb.right a.n a.az a.T=true)(Uu:(a.T.length:Int)=a.n)(hn:a.n<=1000):
 Calls prog 114 #[va,.slice A l.length k,iU] w λy w'=>(∃u e,y=.returned (.tuple #[u,.int .i64 e])/\da Y.cf w' (bO w.1.size w'.1.size) u (V.build a l iU))/\aY w w':=by
 obtain⟨nD,mU,mV,mm,rfl,kX,lM⟩:=ha.ap;obtain⟨av,hR⟩:=cJ (V.build a l iU);rw[hR];have XK:=hl.bounds;change aK _ at hR hS;go_enter_defers func114,ntmps114;go_upto_region 1 with fail
 refine OB λW1 ba bc be I=>?_;have uD:=be.lt;have J:=I;have z1:=I.size;clear I;have O:=iB ba bc be;go_wp2_with fail;refine(KX _ a l A k _ S (j2 hS J.size) (da.PY (kX.aE (dx hS J)) (lM.aE (dx hS J))) (hl.aE (dx hS J)) hL hT Uu).mono ?_;clear O;rintro e w2 ⟨rfl,I⟩;refine ja I ba bc be J ?_;clear I ba bc be J;intro z2 ba bc be J;cases hw:V.whole a l
 case false=>
  change aK _ at hw;have O:=iB ba bc be;go_wp2_with fail;refine(sZ _).mono ?_;rintro e w9 ⟨rfl,rfl⟩;clear O;have HN:aK (av=V.oG):=U (by rw[<-hR.Z];unfold V.build;rw[hw.Z];rfl);go_wp2_with fail;refine xW bc be (by omega) λw8 VV lz mW=>?_;have O:=eE VV lz;exact⟨.tuple #[.agg #[(),(),()],.int .i64 4],by simp[results,results114,go_sem,O],⟨_,_,rfl,by rw[HN.Z];exact da.XI (p:=V.oG) ay.none_ ay.none_ ay.none_⟩,J.trans (mW.mono (by omega))⟩
 have sM:(l.length:Int)=a.n:=by unfold V.whole at hw;rw[cQ,dC] at hw;exact hw.1
 change aK _ at hw;have O:=iB ba bc be;go_wp2_with fail;refine(BT _).mono ?_;clear O;rintro e w3 ⟨rfl,I⟩;refine ja I ba bc be J ?_;clear I ba bc be J;intro z3 ba bc be J;have O:=iB ba bc be;go_wp2_with fail;refine(KN l A k _ S (j2 hS J.size) (hl.aE (dx hS J)) (by omega)).mono ?_;clear O;rintro e w4 ⟨⟨u,rfl,hu⟩,I⟩;refine ja I ba bc be J ?_;clear I ba bc be J;intro z4 ba bc be J;obtain⟨sA,sk,rfl,_⟩:=id hu;simp only[ic] at hu⊢;have HU:=U hu;clear hu;obtain⟨lo,vi⟩:=cJ w4.1.size;have pe:w.1.size+3<=lo:=by omega
 have HHI:=U vi;have hG:=ka w4 (some (w.1.size+1));have O:=iB ba bc be;go_upto_region 4 with fail
 clear O;refine bK λW5 hW=>?_;replace ba:=G.eqv hW (((ba.dE (by omega) 0 _).dE (by omega) 1 _).dE (by omega) 2 _);replace bc:=G.eqv hW (((bc.bd 0 _).bd 1 _).bd 2 _);simp only[eX,dK,dR] at bc;replace be:=G.eqv hW (((be.dE (by omega) 0 _).dE (by omega) 1 _).dE (by omega) 2 _);replace J:=Below.eqv hW (((J.setCell (by show _<=w.1.size+1;omega) _).setCell (by show _<=w.1.size+1;omega) _).setCell (by show _<=w.1.size+1;omega) _);have z5:w4.1.size+0<=W5.1.size:=hW▸(by simp[World.setCell]);replace hG:w4.grownBy W5 (some (w.1.size+1)):=hW▸(aN (aN (aN hG (cU 0 _)) (cU 1 _)) (cU 2 _));clear hW;have O:=iB ba bc be;go_wp2;clear O;go_loopg [8,9,10,23] a.az.length (λq _ _ _ i wr=>∃(j:Nat)(ss:List Int)(ms:List (List (Int×Int)))(mA tA:Option Addr)(mc tc:Nat),i=.int .i64 (j:Int)/\j<=a.az.length/\q=a.az.length-j/\V.jH a l iU j=some (ss,ms)/\pj lo wr (.slice tA j tc) (.slice mA j mc) ss ms/\G wr (w.1.size) #[a.n,.slice nD a.az.length mV,.slice mU a.T.length mm,a.bF] 27/\G wr (w.1.size+1) #[.slice sA l.length sk,.slice mA j mc,.slice tA j tc] 39/\G wr (w.1.size+1+1) #[aP] 42/\aY w wr/\w4.grownBy wr (some (w.1.size+1))/\lo<=wr.1.size)
 case atStart=>exact⟨0,[],[],none,none,0,0,rfl,by omega,by omega,rfl,⟨cj.nil _ _ _ _ _,cj.nil _ _ _ _ _⟩,ba,bc,be,J,hG,by omega⟩
 case round=>
  clear ba bc be J hG;obtain⟨j,ss,ms,mA,tA,mc,tc,rfl,hj,Q,vr,K4,ba,bc,be,J,hG,hlw⟩:=hrel;replace Q:=U Q;replace vr:=U vr;replace K4:=U K4;by_cases bY:j<a.az.length
  case pos=>
   have hO:=bI wr.1.size wr;have O:=iB ba bc be;go_wp2_with fail;refine(NB _ a l A k j iU _ S (j2 hS J.size) (da.PY (kX.aE (dx hS J)) (lM.aE (dx hS J))) (hl.aE (dx hS J)) hL hT hw.Z bY).mono ?_;clear O;rintro e L' ⟨OR,I⟩;replace ba:=ba.next I;replace bc:=bc.next I;replace be:=be.next I;replace hO:=dW hO I;replace hG:=aN hG (aT I);refine Ru I J ?_;clear I J;intro z21 J;have hO2:=bI L'.1.size L';rcases OR with⟨j6,rfl⟩|⟨s1,m1,u,Ma,rfl,hu⟩
   ·
    replace j6:=U j6;have O:=iB ba bc be;go_wp2_with fail;clear O;have HN:aK (av=V.oG):=U (by rw[<-hR.Z];unfold V.build;rw[hw.Z,aS rfl,FR vr.Z j6.Z bY]);go_wp2_with fail;refine xW bc be (by omega) λw8 VV lz mW=>?_;have O:=eE VV lz;exact⟨.tuple #[.agg #[(),(),()],.int .i64 4],by simp[results,results114,go_sem,O],⟨_,_,rfl,by rw[HN.Z];exact da.XI (p:=V.oG) ay.none_ ay.none_ ay.none_⟩,J.trans (mW.mono (by omega))⟩
   obtain⟨uA,uk,rfl,_⟩:=id hu;have hT2:=(K4.next hO);have qT:=td vr.Z;replace hu:=U hu;replace Ma:=U Ma;replace hT2:=U hT2;replace qT:=U qT;have O:=iB ba bc be;go_wp2;go_upto_region 8 with fail
   clear O;refine rgd 0 λrQ I K=>?_;replace ba:=ba.next I;replace bc:=bc.next I;replace be:=be.next I;replace hO:=dW hO I;replace hO2:=dW hO2 I;replace hG:=aN hG (aT I);refine Ru I J ?_;clear I J;intro L3 J;clear K;have O:=eE ba bc;refine aG [0,1,2] 11 ?_;go_wp2;clear O;refine tJ 5 ?_;refine tK 7 ?_;have hT3:pj lo rQ (.slice tA j tc) (.slice mA j mc) ss ms:=K4.same hO.size λb _ q=>hO.block b q;refine qe λA0 gD=>?_;refine j3 [3,4,6,8,9,10] 2047 (λm A y=>∃x3 x4 x6 x8 x9 qa:Value,A=(((((A0.put (some 37) x3).put (some 38) x4).put (some 40) x6).put (some 42) x8).put (some 43) x9).put (some 44) qa/\BI rQ lo (.slice tA j tc) (.slice mA j mc) (.slice uA m1.length uk) ss ms s1 m1 (.pointer (some ⟨w.1.size+1,2,none⟩)) m y x3 x4 x6 x8 x9 qa) (by kernel_rfl) (by kernel_rfl) ?_ 3 ?_ 6 167 _ _ (by kernel_rfl) ⟨u37,u38,u40,u42,u43,u44,by rw[<-gD];clear gD;go_simp,BI.start hT3 (by omega) (by rfl) (by rfl) (by rfl) (by rfl) (by rfl) (by rfl)⟩
   ·
    refine aZ ?_ (aZ ?_ (aZ ?_ (aZ ?_ (aZ ?_ (aZ ?_ iA)))));all_goals
     rintro m A y iK hd ⟨x3,x4,x6,x8,x9,qa,ha,H⟩
    ·replace H:=U H;replace hd:=U hd;replace iK:=U iK;rw[ha,<-gD];clear ha gD;simp only[di,dX,Act.put,eX,dK,dR];go_wp2;try simp only[dI]
     try refine cD (λh=>absurd h (by decide)) ?_
     refine⟨_,x4,x6,x8,x9,qa,?_,H.three iK.Z⟩;go_simp
    ·have n9:m.testBit 9=false:=by cases q:m.testBit 9 with |false=>rfl |true=>rw[(H.nine q).2.1] at iK;cases iK
     have q3:m.testBit 3=true:=dw.get (m:=m) (i:=3) (λh=>h) hd (by kernel_rfl);obtain⟨H3,e3,k1,k2⟩:=H.b3.get hd (by kernel_rfl);subst e3;have VW:=(H.n4 iK).1;have Vo:=H.sz;have HK1:=U (k1 n9);replace VW:=U VW;clear k1;replace H:=U H;replace hd:=U hd;replace iK:=U iK;rw[ha,<-gD];clear ha gD;simp only[di,dX,Act.put,eX,dK,dR];refine dv (r:=Y.int) (y:=s1) rfl (.tmp 35) (.tmp 37) 36 rfl lo 3 Tryz.eG underlying36 rfl (by omega) (.slice tA j tc) rfl VW.Z (λ_ q=>q.elim) (by omega) 1 H3 [s1] rfl HK1.Z rfl (by have:=qT.1;omega) ?_;intro v2 w9 im lE j7 nO;go_wp2;try simp only[dI]
     try refine cD (λh=>absurd h (by decide)) ?_
     refine⟨_,_,x6,x8,x9,qa,?_,H.four iK.Z q3 im lE nO⟩;go_simp
    ·have n9:m.testBit 9=false:=by cases q:m.testBit 9 with |false=>rfl |true=>rw[(H.nine q).2.2.1] at iK;cases iK
     have hbc:G y (w.1.size+1) #[.slice sA l.length sk,.slice mA j mc,.slice tA j tc] 39:=((H.g n9).block _ bc.lt (λe=>by have:=(H.lw _ e.symm).1;omega)).trans bc;have O:=ch hbc;replace H:=U H;replace hd:=U hd;replace iK:=U iK;rw[ha,<-gD];clear ha gD;simp only[di,dX,Act.put,eX,dK,dR];go_wp2;try simp only[dI]
     try refine cD (λh=>absurd h (by decide)) ?_
     refine⟨x3,x4,_,x8,x9,qa,?_,H.xI iK.Z⟩;go_simp
    ·replace H:=U H;replace hd:=U hd;replace iK:=U iK;rw[ha,<-gD];clear ha gD;simp only[di,dX,Act.put,eX,dK,dR];go_wp2;try simp only[dI]
     try refine cD (λh=>absurd h (by decide)) ?_
     refine⟨x3,x4,x6,_,x9,qa,?_,H.eight iK.Z⟩;go_simp
    ·have q4:m.testBit 4=true:=dw.get (m:=m) (i:=4) (λh=>h) hd (by kernel_rfl);have q6:m.testBit 6=true:=dw.get (m:=m) (i:=6) (λh=>h) hd (by kernel_rfl);have q8:m.testBit 8=true:=dw.get (m:=m) (i:=8) (λh=>h) hd (by kernel_rfl);obtain⟨h4,hx4⟩:=H.b4 q4;have hy:=h4 iK;obtain rfl:=H.b6 q6;obtain⟨H8,e8,k1,k2⟩:=H.b8 q8;subst e8;have q3:m.testBit 3=true:=H.Qr q4;have Vo:=H.sz;have VX:=H.g iK;have huv:ay Y.msg false y (XN lo y x4 (.slice mA j mc)) (.slice uA m1.length uk) m1:=((hu.soft.on.aE λb q=>hO2.block b (bO.hi q)).aE λb q=>VX.block b (by have:=bO.hi q;omega) λe=>by have:=(K4.1.lt b e.symm).2;have:=bO.lo q;omega).aF λb q=>⟨by have:=bO.lo q;omega,by have:=bO.hi q;omega,λe=>hx4.elim (λk=>by rw[k] at e;have:=(K4.1.lt b e).2;have:=bO.lo q;omega) (λ⟨c,k,kk⟩=>by rw[k] at e;cases e;have:=bO.hi q;omega),λe=>by have:=(K4.2.lt b e).2;have:=bO.lo q;omega⟩;replace hy:=U hy;have K1:=U (k1 iK);clear k1 VX hx4 h4;replace H:=U H;replace hd:=U hd;replace iK:=U iK;rw[ha,<-gD];clear ha gD;simp only[di,dX,Act.put,eX,dK,dR];refine dv (r:=Y.msg.slice) (y:=m1) rfl (.tmp 40) (.tmp 42) 37 rfl lo 93 Tryz.tX underlying37 rfl (by omega) (.slice mA j mc) rfl hy.2 (λb q=>q.2.1) (by omega) 1 H8 [.slice uA m1.length uk] rfl K1.Z ⟨_,rfl,huv⟩ (by have:=qT.2;omega) ?_;intro v2 w9 im lE j7 nO;go_wp2;try simp only[dI]
     try refine cD (λh=>absurd h (by decide)) ?_
     refine⟨x3,x4,_,_,_,qa,?_,H.append iK.Z q3 q4 q6 q8 im lE nO⟩;go_simp
    ·replace H:=U H;replace hd:=U hd;replace iK:=U iK;rw[ha,<-gD];clear ha gD;simp only[di,dX,Act.put,eX,dK,dR];go_wp2;try simp only[dI]
     try refine cD (λh=>absurd h (by decide)) ?_
     refine⟨x3,x4,x6,x8,x9,_,?_,H.ten⟩;go_simp
   rintro A w9 ⟨x3,x4,x6,x8,x9,qa,ha,H⟩;rw[ha,<-gD];clear ha gD;simp only[Act.put,eX,dK,dR];obtain⟨XP,y0,g1,g2⟩:=H.b9.done (by rfl);obtain rfl:=H.Jk.done (by rfl);obtain⟨tB,tl,rfl,_,_⟩:=XP.1.form;obtain⟨mB,ml,rfl,_,_⟩:=XP.2.form;rw[dh,qT.1,dh,qT.2] at XP⊢;have Fo:=λb e=>(K4.1.lt b e).1;have DH:=λb e=>(K4.2.lt b e).1;have s9:=bT g1.size g2.size;clear H hT3;replace ba:=(ba.grown g1 λe=>by have:=Fo _ e;omega).grown g2 λe=>by have:=DH _ e;omega
   replace bc:=(bc.grown g1 λe=>by have:=Fo _ e;omega).grown g2 λe=>by have:=DH _ e;omega
   replace be:=(be.grown g1 λe=>by have:=Fo _ e;omega).grown g2 λe=>by have:=DH _ e;omega
   replace J:=(J.grown g1 (by omega) λk e=>by have:=Fo k e;omega).grown g2 (by have:=g1.size;omega) λk e=>by have:=DH k e;omega
   replace hG:=jZ (jZ hG g1 λk e=>by have:=Fo k e;omega) g2 λk e=>by have:=DH k e;omega
   replace XP:=U XP;clear g1 g2 Fo DH;have O:=eE ba bc;refine aG [11,12,13] 0 ?_;go_wp2;refine eJ ?_;simp only[dI];go_wp2;go_roundg (a.az.length-(j+1))
   case rel=>
    refine⟨j+1,ss++[s1],ms++[m1],mB,tB,ml,tl,by simp,by omega,rfl,KZ vr.Z Ma.Z,XP.same (by simp[World.setCell]) (λb q r=>?_),(ba.dE (by omega) 2 _).dE (by omega) 1 _,(bc.bd 2 _).bd 1 _,(be.dE (by omega) 2 _).dE (by omega) 1 _,(J.setCell (by show _<=w.1.size+1;omega) _).setCell (by show _<=w.1.size+1;omega) _,aN (aN hG (cU 2 _)) (cU 1 _),by simp[World.setCell];omega⟩;exact(dF _ _ _ _ (by simp;omega)).trans (dF _ _ _ _ (by simp;omega))
   case measure=>have:=Q.Z;omega
  obtain rfl:j=a.az.length:=by omega
  have qT:=td vr.Z;obtain⟨C,hC⟩:∃c:Cf,(⟨l.map λp=>p.state,ms,ss⟩:Cf)=c:=⟨_,rfl⟩;have NF:da Y.cf wr (λb=>w.1.size+3<=b/\b<wr.1.size) (.agg #[.slice sA l.length sk,.slice mA a.az.length mc,.slice tA a.az.length tc]) C:=by
   rw[<-hC];have h0:=(HU.soft.on.aE λb q=>hG.block b (by have:=bO.hi q;omega) λe=>by injection e with e;have:=bO.lo q;omega).aF (S':=λb=>w.1.size+3<=b/\b<wr.1.size) λb q=>⟨by have:=bO.lo q;omega,by have:=bO.hi q;omega⟩;have F:=K4.2.on (S':=λb=>w.1.size+3<=b/\b<wr.1.size) (λb q=>⟨by have:=q.1;omega,q.2.1⟩) (λb e=>⟨by have:=(K4.2.lt b e).1;omega,(K4.2.lt b e).2⟩);have R:=K4.1.on (S':=λb=>w.1.size+3<=b/\b<wr.1.size) (λb q=>q.elim) (λb e=>⟨by have:=(K4.1.lt b e).1;omega,(K4.1.lt b e).2⟩);exact da.XI (p:=⟨l.map λp=>p.state,ms,ss⟩) h0 F R
  replace qT:=U qT;have HCC:=U hC;have HBL:aK (av=if V.rj a C then C else V.oG):=U (by rw[<-hR.Z];unfold V.build;rw[hw.Z,aS rfl,vr.Z,<-hC]);clear hC;have hO:=bI wr.1.size wr;have O:=iB ba bc be;go_wp2_with fail;refine(KW _ _ a C _ (λb=>S b\/(w.1.size+3<=b/\b<wr.1.size)) (λb q=>q.elim (λq=>aU (hS b q) J.size) λq=>q.2) (((da.PY (kX.aE (dx hS J)) (lM.aE (dx hS J)))).aF λb q=> .inl q) (NF.aF λb q=> .inr q) hL hT Uu).mono ?_;clear O;rintro e L' ⟨rfl,I⟩;replace ba:=ba.next I;replace bc:=bc.next I;replace be:=be.next I;replace hO:=dW hO I;replace hG:=aN hG (aT I);refine Ru I J ?_;clear I J;intro z21 J;cases hrc:V.rj a C
  case false=>
   change aK _ at hrc;have O:=iB ba bc be;go_wp2_with fail;refine(sZ _).mono ?_;rintro e w9 ⟨rfl,rfl⟩;clear O;have HN:aK (av=V.oG):=U (by rw[HBL.Z,hrc.Z];rfl);go_wp2_with fail;refine xW bc be (by omega) λw8 VV lz mW=>?_;have O:=eE VV lz;exact⟨.tuple #[.agg #[(),(),()],.int .i64 4],by simp[results,results114,go_sem,O],⟨_,_,rfl,by rw[HN.Z];exact da.XI (p:=V.oG) ay.none_ ay.none_ ay.none_⟩,J.trans (mW.mono (by omega))⟩
  have HN:aK (av=C):=U (by rw[HBL.Z,hrc];rfl);change aK _ at hrc;have O:=iB ba bc be;go_wp2_with fail;refine(BT _).mono ?_;clear O;rintro e YV ⟨rfl,I⟩;replace ba:=ba.next I;replace bc:=bc.next I;replace be:=be.next I;replace hO:=dW hO I;replace hG:=aN hG (aT I);refine Ru I J ?_;clear I J;intro L3 J;have O:=iB ba bc be;go_wp2_with fail;clear O;refine Ii λW9 hW=>?_;have hc9:G W9 (w.1.size+1) #[.slice sA l.length sk,.slice mA a.az.length mc,.slice tA a.az.length tc] 39:=G.eqv hW ((((bc.bd 0 _).bd 1 _).bd 2 _).dE (by omega) 0 _);have nG:G W9 (w.1.size+1+1) #[aP] 42:=G.eqv hW ((((be.dE (by omega) 0 _).dE (by omega) 1 _).dE (by omega) 2 _).bd 0 _);have pS:aY w W9:=Below.eqv hW ((((J.setCell (by show _<=w.1.size+1;omega) _).setCell (by show _<=w.1.size+1;omega) _).setCell (by show _<=w.1.size+1;omega) _).setCell (by show _<=w.1.size+1+1;omega) _);have tY:∀b,w.1.size+3<=b->W9.1[b]?=YV.1[b]?:=λb q=>hW▸(dF _ _ _ _ (by simp;omega)).trans ((dF _ _ _ _ (by simp;omega)).trans ((dF _ _ _ _ (by simp;omega)).trans (dF _ _ _ _ (by simp;omega))));have RI:YV.1.size=W9.1.size:=hW▸(by simp[World.setCell]);clear hW;refine K2 λw8 mW=>?_;have VV:=hc9.next mW;have lz:=nG.next mW;have O:=eE VV lz;have h8:=mW.size;exact⟨.tuple #[.agg #[.slice sA l.length sk,.slice mA a.az.length mc,.slice tA a.az.length tc],aP],by simp[results,results114,go_sem,O],⟨_,_,rfl,by rw[HN.Z];exact(NF.aE λb q=>((mW.block b (by omega)).trans (tY b q.1)).trans (hO.block b q.2)).aF λb q=>⟨by omega,by omega⟩⟩,pS.trans (mW.mono (by omega))⟩
theorem tZ(w:World):Calls prog 150 #[aP] w λx w'=>x=.returned (.tuple #[])/\aY w w':=by
 go_in;go_wp2;exact⟨rfl,.tuple #[],by simp[results,results150,go_sem],rfl,cT⟩
abbrev te(e:Int)(r:Bool):PanicEntry:={v:=.iface 221 (.agg #[e]),recovered:=r}
theorem wW(e:Int)(w:World)(he:e≠0):Calls prog 150 #[e] w λx w'=>x=.panicked [te e false]/\w=w':=by
 have r':(e !=0)=true:=by simpa using he
 go_in;go_wp2;exact⟨rfl,rfl,rfl⟩
theorem tf(e:Int)(w:World):Calls prog 107 #[true,e] w λx w'=>x=.returned (.tuple #[])/\aY w w':=by
 go_in;go_wp2;exact⟨rfl,.tuple #[],by simp[results,results107,go_sem],rfl,cT⟩
theorem mI(e:Int)(w:World):Calls prog 107 #[false,e] w λx w'=>x=.panicked [te e false]/\w=w':=by
 go_in;go_wp2;exact⟨rfl,rfl,rfl⟩
theorem eW.push{w w':World}{lo bw:Nat}{S:Nat->Prop}{a:Ap}{x:Wk}{f:Fr}{s:WA}{A:Option Addr}{n k:Nat}{y:Int×Fr}(h:eW w lo bw S a x f s)(hn:n=(x.Z++[y]).length)(hr:cj Y.Z 151 lo w' (WS S lo w (gW x s)) (.slice A n k) (x.Z++[y]))(hg:w.grownBy w' (gW x s).ownBlock)
 (ho:(Value.slice A n k).ownBlock=(gW x s).ownBlock\/(Value.slice A n k).ownBlock=some w.1.size):eW w' lo bw S a {x with Z:=x.Z++[y]} f {s with s7:=A,ta:=k}:=by
 subst hn;have hW:∀b,WS S lo w (gW x s) b->w'.1[b]?=w.1[b]?:=λb q=>hg.block b (h.nv q).1 λe=>q.elim (λq=>by have:=(h.KV e.symm).1;have:=(h.s0 b q).1;omega) λq=>q.2.2 e.symm;have hS:∀b,WS S lo w (gW x s) b->WS S lo w' (.slice A (x.Z++[y]).length k) b:=λb q=>q.imp id λq=>⟨q.1,aU q.2.1 hg.size,λe=>ho.elim (λt=>q.2.2 (t▸e)) λt=>by rw[t] at e;cases e;exact absurd q.2.1 (wh _)⟩;have h3:∀b,(Value.slice A (x.Z++[y]).length k).ownBlock=some b->¬WS S lo w (gW x s) b:=by obtain⟨_,_,_,h3⟩:=hr;exact h3
 have m:=h.fx.move hW hS;exact⟨bT h.sz hg.size,h.lt,h.s0,h.ap.aE λb q=>hW b (.inl q),h.fr.aE λb q=>hW b (.inl q),⟨m.ho,m.mr,m.hu,m.tr,m.go,m.se,m.ep,m.eq⟩,
  hr.aF hS λb e q=>q.elim (λq=>h3 b e (.inl q)) λq=>q.2.2 e⟩
theorem Ik(lo bw:Nat)(S:Nat->Prop)(a:Ap)(x:Wk)(l:Int)(f:Fr)(s:WA)(w:World)(H:eW w lo bw S a x f s)(bk:G w bw (lA a x l f s) 183):
 Calls prog 155 #[.pointer bw] w λy w'=>y=.returned (.int .i64 (Gr.back a.az l))/\aY w w':=by
 have J:=bI w.1.size w;unfold lA at bk;have OS:=H;go_in;have O:=ch bk;go_upto_region 1 with fail
 clear O;refine rg 512 λW1 I K=>?_;refine iX I bk H J ?_;clear I bk H J;intro z1 bk H J;refine tK 0 ?_;refine tK 1 ?_;refine aG [5] 8 ?_;go_wp2;refine tJ 6 ?_;have O:=ch bk;refine aG [2,3,4,7,8] 2 ?_;go_wp2;clear O;refine oJ 9 ?_;go_wp2_with fail;refine(tU a.n l _ a.az _ H.az).mono ?_;rintro e w2 ⟨rfl,I⟩;refine ja I bk H K J ?_;clear I bk H K J;intro z2 bk H K J;go_wp2;refine⟨λ_=>K,?_⟩;refine aG [10] 0 ?_;go_wp2;refine eJ ?_;go_wp2;go_ret;exact⟨rfl,J⟩
theorem Mb(lo bw:Nat)(S:Nat->Prop)(a:Ap)(x:Wk)(l:Int)(f:Fr)(s:WA)(w:World)(H:eW w lo bw S a x f s)(bk:G w bw (lA a x l f s) 183)(hL:a.az.length<=1000):
 Calls prog 121 #[.pointer bw] w λy w'=>(∃u,y=.returned u/\aM Y.int true w' w.1.size w'.1.size u (Gr.outs a.az x.x.h.node))/\aY w w':=by
 have J:=bI w.1.size w;unfold lA at bk;have OS:=H;go_in;have O:=ch bk;go_upto_region 1 with fail
 clear O;refine rg 2048 λW1 I K=>?_;refine iX I bk H J ?_;clear I bk H J;intro z1 bk H J;refine tK 0 ?_;refine tK 1 ?_;refine aG [5] 10 ?_;go_wp2;refine tJ 6 ?_;have O:=ch bk;refine aG [2,3,4,7,8,9,10] 2 ?_;go_wp2;clear O;refine oJ 11 ?_;go_wp2_with fail;refine(mQ a.n x.x.h.node _ a.az _ H.az (by omega)).mono ?_;rintro e w2 ⟨⟨u,rfl,hu⟩,I⟩;refine ja I bk H K J ?_;clear I bk H K J;intro z2 bk H K J;replace hu:=U hu;go_wp2;refine⟨λ_=>K,?_⟩;refine aG [12] 0 ?_;go_wp2;refine eJ ?_;go_wp2;go_ret;exact⟨⟨_,rfl,hu.aF (by omega) bE⟩,J⟩
theorem K5(lo bw:Nat)(S:Nat->Prop)(a:Ap)(x:Wk)(l:Int)(f:Fr)(s:WA)(w:World)(H:eW w lo bw S a x f s)(bk:G w bw (lA a x l f s) 183)(hL:a.az.length<=1000):
 Calls prog 108 #[.pointer bw] w λy w'=>y=.returned (.int .i64 (V.place (Gr.ins a.az x.x.h.node) l))/\aY w w':=by
 have J:=bI w.1.size w;unfold lA at bk;have OS:=H;go_in;have O:=ch bk;go_upto_region 1 with fail
 clear O;refine rg 67584 λW1 I K=>?_;refine iX I bk H J ?_;clear I bk H J;intro z1 bk H J;refine tK 0 ?_;refine tK 1 ?_;refine tK 2 ?_;refine tK 3 ?_;refine tK 5 ?_;refine tK 6 ?_;refine rD [12] 11 ?_;go_wp2;refine iJ ?_;refine tK 13 ?_;have O:=ch bk;refine aG [4,7,8,9,10] 5 ?_;go_wp2;clear O;have O:=ch bk;refine rJ [14,15] 3 ?_;go_wp2;refine iJ ?_;clear O;refine oN 11 ?_;go_wp2_with fail;refine(mF a.n x.x.h.node _ a.az _ H.az (by omega)).mono ?_;rintro e w2 ⟨⟨u,rfl,hu⟩,I⟩;refine ja I bk H K J ?_;clear I bk H K J;intro z2 bk H K J;obtain⟨uA,uk,rfl,_⟩:=id hu;replace hu:=U hu;have hU:=bI w2.1.size w2;go_wp2;refine⟨λ_=>K,?_⟩;refine oN 16 ?_;go_wp2_with fail;refine(iG _ l _ _ ((hu.aE λb _ q=>hU.block b q).aF (fH _) hU.size)).mono ?_;rintro e w3 ⟨rfl,I⟩;refine lD I bk H hU K J ?_;clear I bk H hU K J;intro z3 bk H hU K J;go_wp2;refine⟨λ_=>K,?_⟩;refine aG [17] 0 ?_;go_wp2;refine eJ ?_;go_wp2;go_ret;exact⟨rfl,J⟩
theorem Qs(lo bw:Nat)(S:Nat->Prop)(a:Ap)(x:Wk)(l:Int)(f:Fr)(s:WA)(w:World)(H:eW w lo bw S a x f s)(bk:G w bw (lA a x l f s) 183):
 Calls prog 152 #[.pointer bw] w λy w'=>y=.returned (.int .i64 (V.kind a))/\aY w w':=by
 have J:=bI w.1.size w;unfold lA at bk;have OS:=H;go_in;obtain⟨q,hq⟩:=cJ a.bF;rw[hq] at bk;have Q:V.kind a=if q then 1 else 2:=by unfold V.kind;rw[hq]
 rw[Q];change aK _ at hq;replace H:=U H;replace OS:=U OS;clear Q;cases q
 case false=>
  have O:=ch bk;go_wp2;go_ret;exact⟨rfl,J⟩
 have O:=ch bk;go_wp2;go_ret;exact⟨rfl,J⟩
theorem Il(lo bw:Nat)(S:Nat->Prop)(a:Ap)(x:Wk)(l:Int)(f:Fr)(s:WA)(lk:Int)(g:Fr)(pA qA:Option Addr)(pk qk:Nat)(w:World)(H:eW w lo bw S a x f s)(bk:G w bw (lA a x l f s) 183)(hp:ay Y.piece false w (WS S lo w (gW x s)) (.slice pA g.pieces.length pk) g.pieces)(hq:ay Y.int false w (WS S lo w (gW x s)) (.slice qA g.path.length qk) g.path)(hn:x.Z.length<=1000):
 Calls prog 77 #[.pointer bw,lk,.agg #[g.kind,g.aC,g.seq,g.bB,.slice pA g.pieces.length pk,g.init,g.num,.int .i64 g.count,.slice qA g.path.length qk]] w λy w'=>y=.returned (.tuple #[])/\Kept lo bw w w'/\(∀b,b<w.1.size->b≠bw->(gW x s).ownBlock≠some b->w'.1[b]?=w.1[b]?)/\∃A k,((Value.slice A (x.Z++[(lk,g)]).length k).ownBlock=(gW x s).ownBlock\/∃b,(Value.slice A (x.Z++[(lk,g)]).length k).ownBlock=some b/\w.1.size<=b)/\G w' bw (lA a {x with Z:=x.Z++[(lk,g)]} l f {s with s7:=A,ta:=k}) 183/\eW w' lo bw S a {x with Z:=x.Z++[(lk,g)]} f {s with s7:=A,ta:=k}:=by
 have J:=bI w.1.size w;unfold lA at bk;have OS:=H;go_in;go_upto_region 1 with fail
 refine nw λW1 bg I=>?_;have uD:w.1.size+1<=W1.1.size:=by have:=bg.lt;omega
 refine iX I bk H J ?_;clear I bk H J;intro z1 bk H J;refine rg 0 λW2 I K=>?_;refine ja I bk bg H J ?_;clear I bk bg H J;intro z2 bk bg H J;refine aG [1] 12 ?_;go_wp2;refine tJ 2 ?_;have O:=eE bk bg;refine aG [3,4,5,6,7] 6 ?_;go_wp2;clear O;refine tJ 0 ?_;refine aG [8] 4 ?_;go_wp2;refine fX ?_;refine nb λW3 x1 I=>?_;have y3:=x1.lt;refine lD I bk bg H K J ?_;clear I bk bg H K J;intro z3 bk bg H K J;refine oN 9 ?_;have L4:∀b,WS S lo w (gW x s) b->W3.1[b]?=w.1[b]?:=λb q=>J.block b (OS.nv q).1;have iu:=λb q=>WS.grow (S:=S) (lo:=lo) (w:=w) (w':=W3) (v:=gW x s) J.size b q;have jr:Y.Z.is false W3 (WS S lo W3 (gW x s)) [lk,g.kind,g.aC,g.seq,g.bB,.slice pA g.pieces.length pk,g.init,g.num,.int .i64 g.count,.slice qA g.path.length qk] (lk,g):=⟨_,_,rfl,(hp.aE L4).aF iu,(hq.aE L4).aF iu⟩;replace jr:=U jr;clear L4 iu;have fM:=H.sz;go_wp2_with (go_loud (at_builtin;refine dv (r:=Y.Z) (y:=(lk,g)) rfl (.tmp 10) (.tmp 14) 144 rfl lo 151 Tryz.L5 underlying144 rfl (by omega) (gW x s) rfl H.row H.hS (by omega) 1 _ _ rfl x1 jr.Z (by omega) ?_;intro v2 w9 im lE j7 nO;obtain⟨A9,k9,nG,_,_⟩:=im.form;obtain⟨nn,j6⟩:∃n,(x.Z++[(lk,g)]).length=n:=⟨_,rfl⟩;rw[j6] at nG;subst nG));first |change aV _ _ _ _ _ _ _ _ _ _|refine⟨λh=>absurd h (by decide),?_⟩
 have I9:=H.push j6.symm im lE nO;have b9:=bk.grown lE (λe=>(H.KV e).2.2 rfl);have K9:=(Kept.of (bw:=bw) J OS.sz).grown lE (by omega) (λb e=>(H.KV e).1);have O:=ld b9 bk bg x1;refine aG [10,11,12] 0 ?_;go_wp2;refine eJ ?_;go_wp2;subst j6;go_end0;exact⟨rfl,K9.bd 32 _,λb q1 q2 q3=>(dF _ _ _ _ (by simpa using q2)).trans ((lE.block b (aU q1 J.size) λe=>q3 e.symm).trans (J.block b q1)),A9,k9,nO.imp (λe=>e) λe=>⟨_,e,J.size⟩,b9.bd 32 _,I9.same (by simp[World.setCell]) λb _ r=>dF _ _ _ _ (by simpa using r)⟩
end Go.Proofs.YtmgahjkopiaglaaGreat
