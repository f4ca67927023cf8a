/- Lemmas, walks and contracts by which the statement is proved. -/
import Derived.Test.YtmgahjkopiaglaaGreatK19
set_option maxRecDepth 100000
set_option maxHeartbeats 16000000
set_option linter.all false
namespace Go.Proofs.YtmgahjkopiaglaaGreat
open Go.RowKit Go.Proofs.Tryz
theorem Nj(n:Nat):∀u∈(Builtin.zeroCells (Value.int .i64 0).cells n).toList,u.oneCell'=true:=by
 intro u hu;simp only[Builtin.zeroCells,Ad,pR] at hu;obtain⟨i,_,rfl⟩:=hu;rw[show(Value.int .i64 0).cells.size=1 from rfl,Nat.mod_one];rfl
theorem Nk(n:Nat):∀u∈(Builtin.zeroCells (Value.agg #[aP,aP,aP,(),(),()]).cells n).toList,u.oneCell'=true:=by
 intro u hu;simp only[Builtin.zeroCells,Ad,pR] at hu;obtain⟨i,_,rfl⟩:=hu;have h:i % 6<6:=Nat.mod_lt _ (by omega);have e:i % 6=0\/i % 6=1\/i % 6=2\/i % 6=3\/i % 6=4\/i % 6=5:=by omega
 rw[show(Value.agg #[aP,aP,aP,(),(),()]).cells.size=6 from rfl];rcases e with e|e|e|e|e|e<;>rw[e]<;>rfl
theorem Tryz.rn:(prog.info? 112).map (λi=>(i.zero,i.size,i.bytes))=some (some (.agg #[aP,aP,aP,(),(),()]),6,96):=by kernel_rfl
theorem KF(w:World):Calls prog 214 #[(),aP] w λy w'=>y=.returned (.slice none 0 0)/\aY w w':=by
 have J:=bI w.1.size w;go_in;go_wp2;go_ret;exact⟨rfl,J⟩
theorem KG(n:Nat)(w:World)(h0:0<n)(hn:n<=1000000):Calls prog 214 #[(),.int .i64 n] w λy w'=>(∃u,y=.returned u/\w'.ownsRow w.1.size 3 1 u 0 [])/\aY w w':=by
 have F:¬((n:Int)<0):=by omega
 have h3:wrap64 (n:Int)=(n:Int):=by unfold wrap64;omega
 have h4:(n:Int)>0:=by omega
 have yW:=Nj n;go_in;go_wp2_with (at_builtin;(refine kg (P:=prog) rfl (.tmp 20) (.tmp 21) 36 3 rfl w.1.size 3 .i64 .i64 Tryz.eG underlying36 underlying3 rfl (by omega) (.slice none 0 0) 0 [] rfl (pL _ _ _ _) n h0 rfl _ rfl yW (by unfold maxLen;omega) (by omega) bE ?_;intro v1 w1 T6 _ ee _;obtain⟨g,cap,rfl,k1,k2,ho2⟩:=sL T6 (by omega);clear T6;have Vj:=U ho2;clear ho2));go_ret;exact⟨⟨_,rfl,Vj.Z⟩,ee⟩
theorem Nl(n:Nat)(w:World)(hn:n<=1000000):Calls prog 214 #[(),.int .i64 n] w λy w'=>(∃u,y=.returned u/\w'.ownsRow w.1.size 3 1 u 0 [])/\aY w w':=by
 rcases m7 n with h|h
 ·subst h;refine(KF w).mono ?_;rintro y w' ⟨rfl,I⟩;exact⟨⟨_,rfl,pL _ _ _ _⟩,I⟩
 ·exact KG n w h hn
theorem HW(S:Nat->Prop)(g:Nat)(A1 A2:Option Addr)(c1 c2:Nat)(xs ys:List Int)(w:World)(hS:∀b,S b->b<w.1.size)(F:ay Y.int false w S (.slice A1 xs.length c1) xs)(R:ay Y.int false w S (.slice A2 ys.length c2) ys)
 (ct:w.1[g]?=some (.cells #[.slice A1 xs.length c1,.slice A2 ys.length c2] 36 (0,0)))(hn:xs.length+ys.length<=1000000):Calls prog 177 #[.slice g 2 2] w
 λy w'=>(∃u cells,y=.returned u/\w'.ownsRow w.1.size 3 1 u (xs++ys).length cells/\Y.int.all false w' S cells (xs++ys))/\aY w w':=by
 have b0:w.cell? ⟨g,0,none⟩=some (.slice A1 xs.length c1):=aD ct 0;have b1:w.cell? ⟨g,1,none⟩=some (.slice A2 ys.length c2):=aD ct 1;have gg:=gm ct;have q2:wrap64 (xs.length:Int)=xs.length:=by unfold wrap64;omega
 have q3:wrap64 ((xs.length:Int)+(ys.length:Int))=(xs.length:Int)+(ys.length:Int):=by unfold wrap64;omega
 have q1:¬((xs.length:Int)<0):=by omega
 have q4:¬((xs.length:Int)+(ys.length:Int)<0):=by omega
 have e1:((xs.length:Int)+(ys.length:Int))=((xs.length+ys.length:Nat):Int):=by simp
 change aK _ at e1;go_in;go_wp2;go_loopg [3,11] 2 (λk s i wr=>(i=.int .i64 0/\s=.int .i64 0/\k=2\/i=.int .i64 1/\s=.int .i64 (xs.length:Int)/\k=1\/i=.int .i64 2/\s=.int .i64 ((xs.length:Int)+(ys.length:Int))/\k=0)/\wr=w)
 case atStart=>exact⟨.inl ⟨rfl,rfl,rfl⟩,rfl⟩
 case round=>
  obtain⟨⟨rfl,rfl,rfl⟩|⟨rfl,rfl,rfl⟩|⟨rfl,rfl,rfl⟩,rfl⟩:=hrel
  ·go_wp2;go_roundg 1
   case rel=>exact⟨.inr (.inl ⟨rfl,rfl,rfl⟩),rfl⟩
   case measure=>omega
  ·go_wp2;go_roundg 0
   case rel=>exact⟨.inr (.inr ⟨rfl,rfl,rfl⟩),rfl⟩
   case measure=>omega
  ·clear q1 q2 q3 q4 b0 b1;obtain⟨W,rfl⟩:∃W:World,W=wr:=⟨_,rfl⟩;rw[e1.Z];go_wp2_with fail;refine(Nl (xs.length+ys.length) W hn).mono ?_;rintro z w1 ⟨⟨u0,rfl,ho⟩,I⟩;have jb:=(I.block g gg).trans ct;have xk:=F.aE (λb q=>I.block b (hS b q));have C4:=R.aE (λb q=>I.block b (hS b q));clear F R ct;have j8:=I.size;replace ho:=U ho;go_wp2;go_loopg [6,27] 2 (λk u i w2=>(i=.int .i64 0/\u=u0/\k=2/\w2=w1\/i=.int .i64 1/\(∃c1,w2.ownsRow W.1.size 3 1 u xs.length c1/\Y.int.all false w2 S c1 xs)/\k=1\/i=.int .i64 2/\(∃c1,w2.ownsRow W.1.size 3 1 u (xs.length+ys.length) c1/\Y.int.all false w2 S c1 (xs++ys))/\k=0)/\Below W.1.size w1 w2)
   case atStart=>exact⟨.inl ⟨rfl,rfl,rfl,rfl⟩,cT⟩
   case round=>
    obtain⟨⟨rfl,rfl,rfl,rfl⟩|⟨rfl,⟨cs1,D,hy⟩,rfl⟩|⟨rfl,⟨cs1,D,hy⟩,rfl⟩,dO⟩:=hrel
    ·have b0:=aD jb 0;replace b0:=b0.trans (show _=some (Value.slice A1 xs.length c1) from rfl);have HS:=U xk.arr;go_wp2_with (at_builtin;refine gB (r:=Y.int) rfl (.tmp 31) (.tmp 32) 36 rfl W.1.size 3 Tryz.eG underlying36 rfl _ 0 [] rfl ho.Z A1 c1 rfl HS.Z (by unfold maxLen;omega) (by omega) j8 ?_;intro v3 w3 news rI cG hg fu ha);go_roundg 1
     case rel=>exact⟨.inr (.inl ⟨rfl,⟨news,by have q:=cG;rw[gh,iR] at q;exact q,Y.ej (λb I=>fu.block b (hS b I)) rI⟩,rfl⟩),dO.trans fu⟩
     case measure=>omega
    ·have uy:=(dO.block g gg).trans jb;have b1:=aD uy 1;replace b1:=b1.trans (show _=some (Value.slice A2 ys.length c2) from rfl);have HS:=U (C4.aE (λb q=>dO.block b (hS b q))).arr;have vK:=bT j8 dO.size;replace D:=U D;replace hy:=U hy;clear uy;go_wp2_with (at_builtin;refine gB (r:=Y.int) rfl (.tmp 31) (.tmp 32) 36 rfl W.1.size 3 Tryz.eG underlying36 rfl _ xs.length cs1 rfl D.Z A2 c2 rfl HS.Z (by unfold maxLen;omega) (by omega) vK ?_;intro v3 w3 news rI cG hg fu ha);go_roundg 0
     case rel=>exact⟨.inr (.inr ⟨rfl,⟨cs1++news,cG,Y.all_append (Y.ej (λb I=>fu.block b (hS b I)) hy.Z) (Y.ej (λb I=>fu.block b (hS b I)) rI)⟩,rfl⟩),dO.trans fu⟩
     case measure=>omega
    ·replace D:=U D;replace hy:=U hy;go_wp2;go_ret;exact⟨⟨_,cs1,rfl,by rw[dh];exact D.Z,hy.Z⟩,I.trans (dO.mono bE)⟩
theorem KH(w:World):Calls prog 226 #[(),aP] w λy w'=>y=.returned (.slice none 0 0)/\aY w w':=by
 have J:=bI w.1.size w;go_in;go_wp2;go_ret;exact⟨rfl,J⟩
theorem KI(n:Nat)(w:World)(h0:0<n)(hn:n<=1000000):Calls prog 226 #[(),.int .i64 n] w λy w'=>(∃u,y=.returned u/\w'.ownsRow w.1.size 112 6 u 0 [])/\aY w w':=by
 have F:¬((n:Int)<0):=by omega
 have h3:wrap64 (n:Int)=(n:Int):=by unfold wrap64;omega
 have h4:(n:Int)>0:=by omega
 have yW:=Nk n;go_in;go_wp2_with (at_builtin;(refine kg (P:=prog) rfl (.tmp 20) (.tmp 21) 119 3 rfl w.1.size 112 .i64 .i64 Tryz.rn underlying119 underlying3 rfl (by omega) (.slice none 0 0) 0 [] rfl (pL _ _ _ _) n h0 rfl _ rfl yW (by unfold maxLen;omega) (by omega) bE ?_;intro v1 w1 T6 _ ee _;obtain⟨g,cap,rfl,k1,k2,ho2⟩:=sL T6 (by omega);clear T6;have Vj:=U ho2;clear ho2));go_ret;exact⟨⟨_,rfl,Vj.Z⟩,ee⟩
theorem Nn(n:Nat)(w:World)(hn:n<=1000000):Calls prog 226 #[(),.int .i64 n] w λy w'=>(∃u,y=.returned u/\w'.ownsRow w.1.size 112 6 u 0 [])/\aY w w':=by
 rcases m7 n with h|h
 ·subst h;refine(KH w).mono ?_;rintro y w' ⟨rfl,I⟩;exact⟨⟨_,rfl,pL _ _ _ _⟩,I⟩
 ·exact KI n w h hn
theorem H0(S:Nat->Prop)(g:Nat)(A1 A2:Option Addr)(c1 c2:Nat)(xs ys:List Pc.bG)(w:World)(hS:∀b,S b->b<w.1.size)(F:ay Y.piece false w S (.slice A1 xs.length c1) xs)(R:ay Y.piece false w S (.slice A2 ys.length c2) ys)
 (ct:w.1[g]?=some (.cells #[.slice A1 xs.length c1,.slice A2 ys.length c2] 119 (0,0)))(hn:xs.length+ys.length<=1000000):Calls prog 201 #[.slice g 2 2] w
 λy w'=>(∃u cells,y=.returned u/\w'.ownsRow w.1.size 112 6 u (xs++ys).length cells/\Y.piece.all false w' S cells (xs++ys))/\aY w w':=by
 have b0:w.cell? ⟨g,0,none⟩=some (.slice A1 xs.length c1):=aD ct 0;have b1:w.cell? ⟨g,1,none⟩=some (.slice A2 ys.length c2):=aD ct 1;have gg:=gm ct;have q2:wrap64 (xs.length:Int)=xs.length:=by unfold wrap64;omega
 have q3:wrap64 ((xs.length:Int)+(ys.length:Int))=(xs.length:Int)+(ys.length:Int):=by unfold wrap64;omega
 have q1:¬((xs.length:Int)<0):=by omega
 have q4:¬((xs.length:Int)+(ys.length:Int)<0):=by omega
 have e1:((xs.length:Int)+(ys.length:Int))=((xs.length+ys.length:Nat):Int):=by simp
 change aK _ at e1;go_in;go_wp2;go_loopg [3,11] 2 (λk s i wr=>(i=.int .i64 0/\s=.int .i64 0/\k=2\/i=.int .i64 1/\s=.int .i64 (xs.length:Int)/\k=1\/i=.int .i64 2/\s=.int .i64 ((xs.length:Int)+(ys.length:Int))/\k=0)/\wr=w)
 case atStart=>exact⟨.inl ⟨rfl,rfl,rfl⟩,rfl⟩
 case round=>
  obtain⟨⟨rfl,rfl,rfl⟩|⟨rfl,rfl,rfl⟩|⟨rfl,rfl,rfl⟩,rfl⟩:=hrel
  ·go_wp2;go_roundg 1
   case rel=>exact⟨.inr (.inl ⟨rfl,rfl,rfl⟩),rfl⟩
   case measure=>omega
  ·go_wp2;go_roundg 0
   case rel=>exact⟨.inr (.inr ⟨rfl,rfl,rfl⟩),rfl⟩
   case measure=>omega
  ·clear q1 q2 q3 q4 b0 b1;obtain⟨W,rfl⟩:∃W:World,W=wr:=⟨_,rfl⟩;rw[e1.Z];go_wp2_with fail;refine(Nn (xs.length+ys.length) W hn).mono ?_;rintro z w1 ⟨⟨u0,rfl,ho⟩,I⟩;have jb:=(I.block g gg).trans ct;have xk:=F.aE (λb q=>I.block b (hS b q));have C4:=R.aE (λb q=>I.block b (hS b q));clear F R ct;have j8:=I.size;replace ho:=U ho;go_wp2;go_loopg [6,27] 2 (λk u i w2=>(i=.int .i64 0/\u=u0/\k=2/\w2=w1\/i=.int .i64 1/\(∃c1,w2.ownsRow W.1.size 112 6 u xs.length c1/\Y.piece.all false w2 S c1 xs)/\k=1\/i=.int .i64 2/\(∃c1,w2.ownsRow W.1.size 112 6 u (xs.length+ys.length) c1/\Y.piece.all false w2 S c1 (xs++ys))/\k=0)/\Below W.1.size w1 w2)
   case atStart=>exact⟨.inl ⟨rfl,rfl,rfl,rfl⟩,cT⟩
   case round=>
    obtain⟨⟨rfl,rfl,rfl,rfl⟩|⟨rfl,⟨cs1,D,hy⟩,rfl⟩|⟨rfl,⟨cs1,D,hy⟩,rfl⟩,dO⟩:=hrel
    ·have b0:=aD jb 0;replace b0:=b0.trans (show _=some (Value.slice A1 xs.length c1) from rfl);have HS:=U xk.arr;go_wp2_with (at_builtin;refine gB (r:=Y.piece) rfl (.tmp 31) (.tmp 32) 119 rfl W.1.size 112 Tryz.rn underlying119 rfl _ 0 [] rfl ho.Z A1 c1 rfl HS.Z (by unfold maxLen;omega) (by omega) j8 ?_;intro v3 w3 news rI cG hg fu ha);go_roundg 1
     case rel=>exact⟨.inr (.inl ⟨rfl,⟨news,by have q:=cG;rw[gh,iR] at q;exact q,Y.ej (λb I=>fu.block b (hS b I)) rI⟩,rfl⟩),dO.trans fu⟩
     case measure=>omega
    ·have uy:=(dO.block g gg).trans jb;have b1:=aD uy 1;replace b1:=b1.trans (show _=some (Value.slice A2 ys.length c2) from rfl);have HS:=U (C4.aE (λb q=>dO.block b (hS b q))).arr;have vK:=bT j8 dO.size;replace D:=U D;replace hy:=U hy;clear uy;go_wp2_with (at_builtin;refine gB (r:=Y.piece) rfl (.tmp 31) (.tmp 32) 119 rfl W.1.size 112 Tryz.rn underlying119 rfl _ xs.length cs1 rfl D.Z A2 c2 rfl HS.Z (by unfold maxLen;omega) (by omega) vK ?_;intro v3 w3 news rI cG hg fu ha);go_roundg 0
     case rel=>exact⟨.inr (.inr ⟨rfl,⟨cs1++news,cG,Y.all_append (Y.ej (λb I=>fu.block b (hS b I)) hy.Z) (Y.ej (λb I=>fu.block b (hS b I)) rI)⟩,rfl⟩),dO.trans fu⟩
     case measure=>omega
    ·replace D:=U D;replace hy:=U hy;go_wp2;go_ret;exact⟨⟨_,cs1,rfl,by rw[dh];exact D.Z,hy.Z⟩,I.trans (dO.mono bE)⟩
def cj{α:Type}(r:Y α)(e:TypeId)(B:Nat)(w:World)(S:Nat->Prop)(v:Value)(xs:List α):Prop:=
 ∃cells,w.ownsRow B e r.size v xs.length cells/\r.all false w S cells xs/\∀b,v.ownBlock=some b->¬S b
section
variable{α:Type}{r:Y α}{e:TypeId}{B:Nat}{w w':World}{S S':Nat->Prop}{v:Value}{xs:List α}
theorem cj.nil(r:Y α)(e:TypeId)(B:Nat)(w:World)(S:Nat->Prop):cj r e B w S (.slice none 0 0) []:=⟨[],pL _ _ _ _,rfl,λb h=>by simp[Value.ownBlock] at h⟩
theorem cj.lt(h:cj r e B w S v xs):∀b,v.ownBlock=some b->B<=b/\b<w.1.size:=by obtain⟨cells,F,_⟩:=h;exact F.lt
theorem cj.aE(h:cj r e B w S v xs)(Q:∀b,S b\/v.ownBlock=some b->w'.1[b]?=w.1[b]?):cj r e B w' S v xs:=by
 obtain⟨cells,F,R,h3⟩:=h;refine⟨cells,⟨F.1,?_⟩,Y.ej (λb q=>Q b (.inl q)) R,h3⟩;rcases F.2 with q|⟨g,cap,cur,rfl,q1,q2,q3⟩
 ·exact .inl q
 ·exact .inr ⟨g,cap,cur,rfl,q1,(Q g (.inr rfl)).trans q2,q3⟩
theorem cj.next(h:cj r e B w S v xs)(I:aY w w')(hS:∀b,S b->b<w.1.size):cj r e B w' S v xs:=h.aE λb q=>I.block b (q.elim (hS b) λq=>(h.lt b q).2)
theorem cj.aF(h:cj r e B w S v xs)(F:∀b,S b->S' b)(R:∀b,v.ownBlock=some b->¬S' b):cj r e B w S' v xs:=by
 obtain⟨cells,q1,q2,q3⟩:=h;exact⟨cells,q1,Y.jw F q2,R⟩
theorem cj.on(h:cj r e B w S v xs)(F:∀b,S b->S' b)(R:∀b,v.ownBlock=some b->S' b):ay r false w S' v xs:=by
 obtain⟨cells,q1,q2,q3⟩:=h;exact ay.ie q1 (Y.jw F q2) R
theorem cj.form(h:cj r e B w S v xs):∃A cap,v=.slice A xs.length cap/\xs.length<=cap/\cap<=maxLen:=by
 obtain⟨A,c,rfl,F,R,_⟩:=h.on (S':=λ_=>True) (λ_ _=>trivial) (λ_ _=>trivial);exact⟨A,c,rfl,F,R⟩
theorem cj.type(h:cj r e B w S v xs){b:Nat}(I:v.ownBlock=some b):∃cur,w.1[b]?=some (.cells cur e (0,0)):=by
 obtain⟨cells,F,R,h3⟩:=h;rcases F.2 with⟨rfl,_⟩|⟨g,cap,cur,rfl,h4,h5,_⟩
 ·simp[Value.ownBlock] at I
 ·have:b=g:=by simpa[Value.ownBlock] using I.symm
  subst this;exact⟨cur,h5⟩
theorem cj.bM{T:TypeId}{b:Nat}{cs:Array Value}(h:cj r e B w S v xs)(I:G w b cs T)(fz:e≠T):v.ownBlock≠some b:=λhe=>by
 obtain⟨cur,hc⟩:=h.type he;exact eH hc I fz rfl
end
section
variable{P:Program}{w:World}{ops:Array Oper}{rest:List Oper}{o:Oper}{a:Act}{ao:Exit->Act->World->Prop}
theorem yD{α:Type}{r:Y α}{S:Nat->Prop}{xs:List α}{y:α}(o7:o.guard=none)(s x:Operand)(t:TypeId)(ho:o.op=.call {callee:=.builtin .append,args:=#[s,x],argTypes:=#[t,t]})
 (B:Nat)(e:TypeId){z:Value}{bytes:Nat}(fU:(P.info? e).map (λi=>(i.zero,i.size,i.bytes))=some (some z,r.size,bytes))(ht:P.underlying t=some (.slice e))
 (nZ:z.cells.size=r.size)(E6:bytes<=1000)(v:Value)(hs:a.eval s=v)(ct:cj r e B w S v xs)(hS:∀b,S b->b<w.1.size)(J:B<=w.1.size)
 (c ar:Nat)(cs:List Value)(D:a.eval x=.slice ar 1 c)(hH:w.1.size=ar)(jr:r.is false w S cs y)(hn:xs.length<=1000000)
 (h:∀v' w',cj r e B w' S v' (xs++[y])->w.grownBy w' v.ownBlock->Below B w w'->(v'.ownBlock=v.ownBlock\/∃k,v'.ownBlock=some k/\w.1.size<=k)->wpList P ops ao rest (a.put o.dst v') w'):wpList P ops ao (o::rest) a (w.alloc (.cells cs.toArray e)):=by
 obtain⟨cells,F,R,h3⟩:=ct;refine lH o7 s x t ho B e fU ht nZ r.pos v xs.length cells hs F 1 c ar cs D hH (by rw[r.len jr];omega) (r.one jr) (by unfold maxLen;omega) (bT (pq (show xs.length+1<=1000001 by omega) E6) (by omega)) J ?_;intro v' w' k1 k2 k3 k4;have Q:∀b,S b->w'.1[b]?=w.1[b]?:=λb q=>k2.block b (hS b q) λhe=>h3 b he.symm q;have fz:∀b,v'.ownBlock=some b->¬S b:=λb I q=>by
  rcases k4 with k4|k4
  ·exact h3 b (k4▸I) q
  ·rw[k4] at I;cases I;have:=hS _ q;omega
 refine h v' w' ⟨cells++cs,by rw[dh];exact k1,Y.sm (Y.ej Q R) (r.aE jr Q),fz⟩ k2 k3 ?_;rcases k4 with k4|k4
 ·exact .inl k4
 ·exact .inr ⟨_,k4,by omega⟩
end
def NS(lo:Nat)(w:World)(v:Value):Nat->Prop:=λb=>lo<=b/\b<w.1.size/\v.ownBlock≠some b
theorem cj.sW{α:Type}{r:Y α}{e:TypeId}{B lo:Nat}{w w':World}{v v':Value}{xs:List α}(h:cj r e B w' (NS lo w v) v' xs)(hs:w.1.size<=w'.1.size):cj r e B w' (NS lo w' v') v' xs:=
 have h3:∀b,v'.ownBlock=some b->¬NS lo w v b:=by obtain⟨_,_,_,h3⟩:=h;exact h3
 h.aF (λb q=>⟨q.1,aU q.2.1 hs,λe=>h3 b e q⟩) (λb I q=>q.2.2 I)
theorem cj.Uq{α:Type}{r:Y α}{e:TypeId}{B lo:Nat}{w w':World}{v:Value}{xs:List α}(h:cj r e B w (NS lo w v) v xs)(I:aY w w'):cj r e B w' (NS lo w' v) v xs:=
 (h.next I λb q=>q.2.1).sW I.size
theorem Tryz.L5:(prog.info? 151).map (λi=>(i.zero,i.size,i.bytes))=some (some (.agg #[aP,aP,aP,aP,aP,(),aP,aP,aP,()]),10,112):=by kernel_rfl
def H4(a:Ap)(h:Hu.Host)(init num:Int)(path:List Int)(x:Int):Int×Fr:=(Gr.find a.az h.node x,⟨6,0,0,0,[],init,num,V.jz a h (Gr.find a.az x h.node),path++[h.node]⟩)
theorem No(a:Ap)(h:Hu.Host)(init num:Int)(path:List Int):V.dp a h init num path=(Tb.at_ a.T h.node h.state).waits.map (H4 a h init num path):=rfl
theorem vo(a:Ap)(h:Hu.Host)(gD D' nD mU pA:Option Addr)(ma uu mV mm pk:Nat)(init num:Int)(path:List Int)(w:World)(S:Nat->Prop)(hS:∀b,S b->b<w.1.size)(ha:da Y.ap w S (.agg #[a.n,.slice nD a.az.length mV,.slice mU a.T.length mm,a.bF]) a)(hh:da Y.ho w S (.agg #[h.node,h.state,h.steps,.slice gD h.bD.length ma,.slice D' h.Z.length uu]) h)(hp:ay Y.int false w S (.slice pA path.length pk) path)(hL:a.az.length<=1000)(hlen:h.bD.length=(Gr.ins a.az h.node).length)(hw:(Tb.at_ a.T h.node h.state).waits.length<=1000)(rT:path.length<=1000):
 Calls prog 125 #[.agg #[h.node,h.state,h.steps,.slice gD h.bD.length ma,.slice D' h.Z.length uu,a.n,.slice nD a.az.length mV,.slice mU a.T.length mm,a.bF],init,num,.slice pA path.length pk] w λy w'=>(∃u,y=.returned u/\ay Y.Z false w' (bO w.1.size w'.1.size) u (V.dp a h init num path))/\aY w w':=by
 have mZ:=ha;have hhp:=hh;obtain⟨_,_,_,_,e,kX,lM⟩:=ha.ap;injection e with e;injection e with e;injection e with _ e;injection e with e1 e;injection e with e2 _
 injection e1 with e3 _ e4;injection e2 with e5 _ e6
 subst e3 e4 e5 e6;replace mZ:=U mZ;replace hhp:=U hhp;replace kX:=U kX;replace lM:=U lM;change aK _ at hlen hS;go_in;go_upto_region 2 with fail
 refine jt λW1 bs I=>?_;have uD:=bs.lt;have J:=I;have z1:=I.size;clear I;have O:=ch bs;go_wp2_with fail;refine(Br _ a.T h.node h.state _ S (j2 hS J.size) (lM.aE (dx hS J)) (by omega)).mono ?_;clear O;rintro e w2 ⟨⟨u,rfl,hu⟩,I⟩;refine lW I bs J ?_;clear I bs J;intro z2 bs J;obtain⟨ws,hws⟩:=cJ ((Tb.at_ a.T h.node h.state).waits);rw[hws] at hu hw;change aK _ at hws;obtain⟨uA,uk,rfl,RJ,hum,hua⟩:=hu;unfold maxLen at hum;replace hua:=U hua;have ui:=bI w2.1.size w2;have O:=ch bs;go_wp2;clear O;go_loopg [9,11,12,13,25] ws.length (λq v _ _ _ i wr=>∃(j:Nat)(As:Option Addr)(ks:Nat),i=.int .i64 (j:Int)/\j<=ws.length/\q=ws.length-j/\v=.slice As j ks/\cj Y.Z 151 w2.1.size wr (NS w2.1.size wr (.slice As j ks)) (.slice As j ks) ((ws.take j).map (H4 a h init num path))/\G wr (w.1.size) #[h.node,h.state,h.steps,.slice gD h.bD.length ma,.slice D' h.Z.length uu,a.n,.slice nD a.az.length mV,.slice mU a.T.length mm,a.bF] 238/\aY w wr/\aY w2 wr)
 case atStart=>exact⟨0,none,0,rfl,by omega,by omega,rfl,cj.nil _ _ _ _ _,bs,J,ui⟩
 case round=>
  clear bs J ui;obtain⟨j,As,ks,rfl,hj,Q,rfl,H6,bs,J,ui⟩:=hrel;change aK _ at Q;replace H6:=U H6;have Gf:=ui.size;by_cases bY:j<ws.length
  ·obtain⟨x,D⟩:=Pc.get_at bY;obtain⟨gx,ox,hA,jy,c0⟩:=(hua.aE λb _ q=>ui.block b q).qW D;have gg:gx<wr.1.size:=aU (bO.hi jy) ui.size;have kH:=Pc.de D;subst hA;replace kH:=U kH;replace D:=U D;have hO:=bI wr.1.size wr;have O:=ch bs;go_upto_region 5 with fail
   clear O;clear c0 gg;refine dr 6144 (by kernel_rfl) λOM hW=>?_;have I:aY wr OM:=hW▸cT.drew;have K:=Ext.refl OM;clear hW;refine ja I bs ui hO J ?_;clear I bs ui hO J;intro z21 bs ui hO J;have O:=ch bs;refine aG [4,5,6,7,8,9,10] 7 ?_;go_wp2;clear O;have O:=ch bs;refine rJ [0,1,2,3] 3 ?_;go_wp2;refine iJ ?_;clear O;refine oN 11 ?_;go_wp2_with fail;refine(l9 a.n x h.node _ a.az _ (kX.zero hS.Z J)).mono ?_;rintro e YV ⟨rfl,I⟩;refine lD I bs ui hO K J ?_;clear I bs ui hO K J;intro L3 bs ui hO K J;go_wp2;refine⟨λ_=>K,?_⟩;refine oN 12 ?_;go_wp2_with fail;refine(Sw _ _ a h (Gr.find a.az x h.node) _ S (j2 hS J.size) (mZ.aE (dx hS J)) (hhp.aE (dx hS J)) hL hlen.Z).mono ?_;rintro e w23 ⟨rfl,I⟩;refine lD I bs ui hO K J ?_;clear I bs ui hO K J;intro z23 bs ui hO K J;obtain⟨gt,PZ⟩:=cJ (V.jz a h (Gr.find a.az x h.node));rw[PZ];change aK _ at PZ;go_wp2;refine⟨λ_=>K,?_⟩;refine aG [13] 0 ?_;go_wp2;refine eJ ?_;have O:=ch bs;go_wp2_with fail;clear O;refine nC2 λWq F R I=>?_;refine ja I bs ui hO J ?_;clear I bs ui hO J;intro z24 bs ui hO J;have uh:ay Y.int false Wq (λb=>S b\/b=w23.1.size) (.slice w23.1.size ([h.node]:List Int).length 1) [h.node]:=ay.vj F ⟨[_],[],rfl,rfl,rfl⟩ (.inr rfl) (by simp);have kr:=((hp.aE (dx hS.Z J))).aF (S':=λb=>S b\/b=w23.1.size) λb q=> .inl q;replace kr:=U kr;refine(HW _ _ pA (some ⟨w23.1.size,0,none⟩) pk 1 path [h.node] _ (λb q=>q.elim (λq=>aU (hS b q) J.size) (λq=>q▸F.lt)) kr.Z uh R (by simp;omega)).mono ?_;rintro e Ur ⟨⟨u,cells,rfl,Ed,DU⟩,I⟩;refine ja I bs ui hO J ?_;clear I bs ui hO J;intro z25 bs ui hO J;have YZ:ay Y.int false Ur (bO Wq.1.size Ur.1.size) u (path++[h.node]):=ay.ie (r:=Y.int) Ed (by have:=wA DU;rw[this];exact kt _ _ _ _) (λg hg=>Ed.lt g hg);clear Ed DU;obtain⟨vA,vk,rfl,_⟩:=id YZ;obtain⟨pn,hpn⟩:=cJ ((path++[h.node]).length);rw[hpn] at YZ⊢;change aK _ at hpn;replace YZ:=U YZ;clear F R;have hV:=bI Ur.1.size Ur;go_upto_region 7 with fail
   refine jt λW26 bf I=>?_;have ais:=bf.lt;refine lD I bs ui hO hV J ?_;clear I bs ui hO hV J;intro z26 bs ui hO hV J;refine dr 256 (by kernel_rfl) λW27 hW=>?_;have I:aY W26 W27:=hW▸cT.drew;have K:=Ext.refl W27;clear hW;refine xl I bs bf ui hO hV J ?_;clear I bs bf ui hO hV J;intro z27 bs bf ui hO hV J;have O:=eE bs bf;refine aG [1,2,3,4,5,6,7] 7 ?_;go_wp2;clear O;have O:=eE bs bf;refine rJ [0,9] 5 ?_;go_wp2;refine iJ ?_;clear O;refine oN 8 ?_;go_wp2_with fail;refine(l9 a.n h.node x _ a.az _ (kX.zero hS.Z J)).mono ?_;rintro e w28 ⟨rfl,I⟩;refine An I bs bf ui hO hV K J ?_;clear I bs bf ui hO hV K J;intro z28 bs bf ui hO hV K J;go_wp2;refine⟨λ_=>K,?_⟩;refine aG [10,11] 2 ?_;go_wp2;refine oJ 12 ?_;have ct:=H6.Uq hO;replace ct:=U ct;have jr:Y.Z.is false w28 (NS w2.1.size w28 (.slice As j ks)) [.int .i64 (Gr.find a.az h.node x),.int .i64 6,aP,aP,aP,(),init,num,gt,.slice vA pn vk] (H4 a h init num path x):=by
    have e:H4 a h init num path x=(Gr.find a.az h.node x,⟨6,0,0,0,[],init,num,gt,path++[h.node]⟩):=by unfold H4;rw[PZ.Z]
    rw[e];refine⟨_,_,rfl,ay.none_,(YZ.aE λb q=>hV.block b (bO.hi q)).aF λb q=>⟨by have:=bO.lo q;omega,aU (bO.hi q) hV.size,λe=>?_⟩⟩;have:=bO.lo q;have:=(H6.lt b e).2;omega
   replace jr:=U jr;have VD:=ui.size;have qT:((ws.take j).map (H4 a h init num path)).length=j:=by simp;omega
   change aK _ at qT;go_wp2_with (go_loud (at_builtin;refine yD (r:=Y.Z) (y:=H4 a h init num path x) rfl (.tmp 53) (.tmp 64) 144 rfl w2.1.size 151 Tryz.L5 underlying144 rfl (by omega) _ rfl ct.Z (λb q=>q.2.1) (by omega) 1 _ _ rfl rfl jr.Z (by rw[qT.Z];omega) ?_;intro v2 w9 j1 fh fu CP;obtain⟨A8,c8,lz,_,_⟩:=j1.form;rw[dh,qT.Z] at lz;subst lz));first |change aV _ _ _ _ _ _ _ _ _ _|refine⟨λh=>absurd h (by decide),?_⟩
   have qB:=fh.size;replace bs:=bs.grown fh (ct.bM bs (by decide));have pS:=J.trans (fu.mono (by omega));have ac6:=ui.trans (fu.mono (by omega));refine aG [13] 0 ?_;go_wp2;refine eJ ?_;go_wp2;go_roundg (ws.length-(j+1))
   case rel=>exact⟨j+1,A8,c8,by simp,by omega,rfl,rfl,by rw[kH.Z,jP];exact j1.sW qB,bs,pS,ac6⟩
   case measure=>have:=Q.Z;omega
  ·have jx:j=ws.length:=by omega
   subst jx;have hr:=H6.Z;rw[iw] at hr;replace hr:=U hr;have O:=ch bs;go_wp2;go_ret;exact⟨⟨_,rfl,by rw[No,hws.Z];exact hr.on (λb q=>⟨by have:=q.1;have:=J.size;omega,q.2.1⟩) (λb q=>⟨by have:=(hr.lt b q).1;omega,(hr.lt b q).2⟩)⟩,J⟩
theorem KJ(va vh:Value)(a:Ap)(h:Hu.Host)(num:Int)(w:World)(S:Nat->Prop)(hS:∀b,S b->b<w.1.size)(ha:da Y.ap w S va a)(hh:da Y.ho w S vh h)(hL:a.az.length<=1000)(hlen:h.bD.length=(Gr.ins a.az h.node).length)(hw:(Tb.at_ a.T h.node h.state).waits.length<=1000):
 Calls prog 85 #[va,vh,num] w λy w'=>(∃u,y=.returned (.tuple #[u,.int .i64 (V.fD a h num).1])/\ay Y.Z false w' (bO w.1.size w'.1.size) u (V.fD a h num).2)/\aY w w':=by
 obtain⟨nD,mU,mV,mm,rfl,kX,lM⟩:=ha.ap;obtain⟨gD,D',ma,uu,rfl,hh0,hh1⟩:=hh.ho;change aK _ at hlen hS;go_in;go_upto_region 1 with fail
 refine r9 λW1 ba bh I=>?_;have uD:=bh.lt;have J:=I;have z1:=I.size;clear I;have O:=eE ba bh;go_upto_region 2 with fail
 clear O;refine jt λW2 bs I=>?_;have zl2:=bs.lt;refine iX I ba bh J ?_;clear I ba bh J;intro z2 ba bh J;cases hf:a.bF with
 |false=>
  rw[hf] at ba bs;change aK _ at hf;have HR:aK (V.fD a h num=(9,[])):=U (by unfold V.fD;rw[aS hf.Z]);have O:=iB ba bh bs;go_wp2;go_ret2;exact⟨⟨_,by rw[HR.Z];rfl,by rw[HR.Z];exact ay.none_⟩,J⟩
 |true=>
  rw[hf] at ba bs;change aK _ at hf;by_cases F:num<1
  ·have HR:aK (V.fD a h num=(2,[])):=U (by unfold V.fD;rw[aO (by rw[hf.Z];decide),aS (.inl F)]);have O:=iB ba bh bs;go_wp2;go_ret2;exact⟨⟨_,by rw[HR.Z];rfl,by rw[HR.Z];exact ay.none_⟩,J⟩
  ·by_cases R:200<num
   ·have HR:aK (V.fD a h num=(2,[])):=U (by unfold V.fD;rw[aO (by rw[hf.Z];decide),aS (.inr R)]);have O:=iB ba bh bs;go_wp2;go_ret2;exact⟨⟨_,by rw[HR.Z];rfl,by rw[HR.Z];exact ay.none_⟩,J⟩
   ·have uf:¬(num<1\/200<num):=by omega
    replace uf:=U uf;have O:=iB ba bh bs;go_wp2_with fail;have Xz:=pD a h gD D' nD mU ma uu mV mm W2 S (j2 hS.Z J.size) (lM.aE (dx hS.Z J));rw[hf.Z] at Xz;refine(Xz).mono ?_;clear O;rintro e w3 ⟨rfl,I⟩;refine ja I ba bh bs J ?_;clear I ba bh bs J;intro z3 ba bh bs J;cases hq:V.blocked a h with
    |false=>
     have HR:aK (V.fD a h num=(8,[])):=U (by unfold V.fD;rw[aO (by rw[hf.Z];decide),aO uf.Z,aS hq]);have O:=iB ba bh bs;go_wp2;go_ret2;exact⟨⟨_,by rw[HR.Z];rfl,by rw[HR.Z];exact ay.none_⟩,J⟩
    |true=>
     have HR:aK (V.fD a h num=(0,V.dp a h h.node num [])):=U (by unfold V.fD;rw[aO (by rw[hf.Z];decide),aO uf.Z,aO (by rw[hq];decide)]);have O:=iB ba bh bs;go_wp2_with fail;have XF:=vo a h gD D' nD mU none ma uu mV mm 0 h.node num [] w3 S (j2 hS.Z J.size) (da.PY (kX.aE (dx hS.Z J)) (lM.aE (dx hS.Z J))) (da.Jo (hh0.aE (dx hS.Z J)) (hh1.aE (dx hS.Z J))) ay.none_ hL hlen.Z hw (by simp);rw[hf.Z] at XF;refine(XF).mono ?_;clear O;rintro e w4 ⟨⟨u,rfl,hu⟩,I⟩;refine ja I ba bh bs J ?_;clear I ba bh bs J;intro z4 ba bh bs J;obtain⟨uA,uk,rfl,_⟩:=id hu;replace hu:=U hu;go_wp2;go_ret2;exact⟨⟨_,by rw[HR.Z];rfl,by rw[HR.Z];exact hu.aF λb q=>⟨by have:=bO.lo q;have:=J.size;omega,bO.hi q⟩⟩,J⟩
theorem Np(v:Value)(xs:List Int)(k:Nat)(w:World)(h:aM Y.int false w 0 w.1.size v xs):
 Calls prog 205 #[v,.int .i64 k] w λy w'=>y=.returned (.int .i64 (xs.getD k 0))/\aY w w':=by
 obtain⟨A,c,rfl,hl,hm,hA⟩:=h;unfold maxLen at hm;by_cases Q:k<xs.length
 ·obtain⟨x,D⟩:=Pc.get_at Q;obtain⟨gx,o,rfl,_,hg,c0⟩:=hA.int D;have HX:aK (xs.getD k 0=x):=U (by rw[dB,D];rfl);clear hA D;go_in;go_wp2;go_ret;exact⟨by rw[HX.Z];rfl,cT⟩
 ·have HX:aK (xs.getD k 0=0):=U (by rw[dB,uJ (by omega)];rfl);clear hA;go_in;go_wp2;go_ret;exact⟨by rw[HX.Z];rfl,cT⟩
end Go.Proofs.YtmgahjkopiaglaaGreat
