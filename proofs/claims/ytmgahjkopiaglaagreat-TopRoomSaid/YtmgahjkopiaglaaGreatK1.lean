/- Lemmas, walks and contracts by which the statement is proved. -/
import Derived.WalkKit
import Derived.WalkLawsBesides
import Derived.WalkSpells
import Derived.Lib.Hide
import Derived.Lib.MinMax
import Derived.Outline
import Derived.Deep.LoopGhost
import Derived.Deep.DeepFit
import Derived.BigQuiet
import Derived.Deep.QuietTactic
import Derived.Test.YtmgahjkopiaglaaGreatProg
import Derived.Laws.BitsAllLaws
import Derived.Recover
import Derived.Laws.Pointers
import Derived.Laws.ResultCell
import Derived.Maps.AppendAt
import Derived.Deep.AppendLies
set_option maxRecDepth 100000
set_option maxHeartbeats 16000000
set_option linter.all false
namespace Go.Proofs.YtmgahjkopiaglaaGreat
abbrev aU:=@Nat.lt_of_lt_of_le
abbrev dB:=@List.getD_eq_getElem?_getD
abbrev dh:=@List.length_append
abbrev eD:=@List.getElem?_eq_some_iff
abbrev eu:=@List.getElem?_eq_getElem
abbrev eX:=@List.setIfInBounds_toArray
abbrev bI:=@Go.RowKit.Below.refl
abbrev cV:=@decide_eq_true
abbrev dF:=@Go.heap_setCell_other
abbrev dX:=@List.getD_cons_zero
abbrev di:=@List.getD_cons_succ
abbrev bZ:=@decide_eq_false
abbrev cQ:=@Bool.and_eq_true
abbrev bL:=@Go.bodyPost_ret
abbrev bT:=@Nat.le_trans
abbrev aO:=@if_neg
abbrev dY:=@List.getElem?_toArray
abbrev dV:=@List.mem_of_getElem?
abbrev eR:=@List.getElem?_cons_zero
abbrev ca:=@Nat.le_of_eq
abbrev dC:=@decide_eq_true_eq
abbrev dK:=@List.set_cons_zero
abbrev eZ:=@List.getElem?_cons_succ
abbrev aS:=@if_pos
abbrev dR:=@List.set_cons_succ
abbrev dG:=@Int.toNat_natCast
abbrev ib:=@List.eq_nil_of_length_eq_zero
abbrev dL:=@List.length_take
abbrev eK:=@Array.length_toList
abbrev eM:=@of_decide_eq_true
abbrev eT:=@List.all_eq_true
abbrev cD:=@And.intro
abbrev fF:=@List.length_cons
abbrev fG:=@List.length_set
abbrev ev:=@Nat.le_refl
abbrev kJ:=@List.mem_or_eq_of_mem_set
abbrev jL:=@List.take_of_length_le
abbrev gh:=@List.nil_append
abbrev jM:=@List.length_replicate
abbrev lF:=@List.getElem?_append_left
abbrev fK:=@Nat.add_assoc
abbrev iw:=@List.take_length
abbrev ic:=@List.length_map
abbrev j':=@List.length_singleton
abbrev iQ:=@List.length_drop
abbrev fH:=@Nat.zero_le
abbrev jN:=@List.size_toArray
abbrev ka:=@Go.World.grownBy.refl
abbrev pJ:=@List.getElem?_append_right
abbrev gm:=@Go.lt_of_block
abbrev jO:=@Nat.not_lt_zero
abbrev jP:=@List.map_append
abbrev iI:=@Go.Sem.run_bind
abbrev iR:=@Nat.zero_add
abbrev iS:=@Nat.add_zero
abbrev m5:=@List.getElem_of_mem
abbrev kK:=@List.foldl_cons
abbrev ke:=@List.mem_range
abbrev m6:=@of_decide_eq_false
abbrev m7:=@Nat.eq_zero_or_pos
abbrev m8:=@List.pairwise_cons
abbrev jQ:=@List.mem_cons
abbrev jR:=@List.map_cons
abbrev kM:=@Go.run_underlying
abbrev nR:=@List.mem_replicate
abbrev lY:=@Bool.or_eq_true
abbrev nc:=@List.getElem_mem
abbrev fS:=@congrArg
abbrev nT:=@Bool.not_eq_true'
abbrev nf:=@List.mem_append
abbrev nj:=@List.length_nil
abbrev nU:=@List.cons_append
abbrev xu:=@List.take_append_of_le_length
abbrev pL:=@Go.World.ownsRow_nil
abbrev sh:=@Go.wpList_lookup_own_int
abbrev nm:=@Go.heap_alloc_old
abbrev np:=@Go.heap_alloc_new
abbrev qG:=@List.filter_append
abbrev pM:=@Option.getD_some
abbrev fT:=@Ne.symm
abbrev uI:=@List.drop_eq_nil_of_le
abbrev qH:=@List.append_assoc
abbrev xv:=@Array.getElem?_eq_some_iff
abbrev AP:=@Array.all_eq_true_iff_forall_mem
abbrev si:=@Nat.testBit_two_pow
abbrev uJ:=@List.getElem?_eq_none
abbrev qI:=@List.any_eq_true
abbrev pO:=@Nat.testBit_or
abbrev uK:=@List.getElem?_set_ne
abbrev xw:=@List.getElem?_replicate
abbrev qJ:=@Nat.min_eq_left
abbrev nV:=@Nat.succ_mul
abbrev pP:=@Bool.true_and
abbrev xy:=@Go.MapKept.run_getObj_map
abbrev AQ:=@List.drop_eq_getElem_cons
abbrev nW:=@Nat.mul_one
abbrev pQ:=@Nat.lt_or_ge
abbrev pR:=@List.mem_map
abbrev uL:=@List.any_eq_false
abbrev xz:=@Array.replicate_zero
abbrev tx:=@Array.replicate_succ
abbrev qK:=@Go.Result.andThen_ok
abbrev tz:=@List.append_toArray
abbrev pq:=@Nat.mul_le_mul
abbrev vQ:=@Nat.add_sub_cancel_left
abbrev pt:=@Bool.false_and
abbrev vR:=@List.getElem?_set_self
abbrev tC:=@Bool.false_eq_true
abbrev qL:=@List.cons.injEq
abbrev vU:=@List.take_append_drop
abbrev tD:=@Option.some.injEq
abbrev tE:=@List.push_toArray
abbrev tF:=@Bool.eq_false_iff
abbrev vV:=@Go.Lib.run_eql_slice_nil
abbrev mz:=@beq_iff_eq
abbrev vX:=@Nat.mul_le_mul_right
abbrev pw:=@List.map_nil
abbrev mC:=@Go.info_parts
abbrev px:=@Go.wpList_plain
abbrev lG:=@Go.run_build
abbrev vY:=@List.mem_singleton
abbrev vZ:=@List.getElem?_drop
abbrev mD:=@Go.wpOp_mono
abbrev zP:=@Go.Maps.atKey_put_same
abbrev zQ:=@Go.MapKept.run_setObj_map
abbrev zR:=@List.length_filter_le
abbrev zT:=@Array.getElem?_modify
abbrev wa:=@List.drop_append
abbrev tG:=@List.any_cons
abbrev tH:=@List.all_cons
abbrev zU:=@Go.World.frozen?_setCell
abbrev qM:=@Nat.pow_pos
abbrev zW:=@Nat.pow_le_pow_right
abbrev wb:=@Option.some.inj
abbrev we:=@Option.map_some
abbrev wg:=@Nat.testBit_and
abbrev qN:=@Go.cell_of_one
abbrev EL:=@List.takeWhile_cons_of_pos
abbrev EM:=@List.takeWhile_cons_of_neg
abbrev zX:=@List.getElem?_take
abbrev tI:=@Go.Sem.run_pure
abbrev zY:=@Go.World.ownsMap_made
abbrev tL:=@Nat.mul_pos
abbrev zZ:=@List.take_add_one
abbrev z':=@List.getElem?_map
abbrev wh:=@Nat.lt_irrefl
abbrev Aa:=@Nat.min_le_right
abbrev Ab:=@List.map_toArray
abbrev Ac:=@Int.shiftLeft_eq
abbrev EN:=@Int.eq_ofNat_of_zero_le
abbrev EO:=@Go.Maps.atKey_put_other
abbrev Ad:=@Array.toList_map
abbrev wj:=@Go.plainElem_int
abbrev wk:=@List.map_set
abbrev Ae:=@Nat.min_le_left
abbrev Af:=@Bool.eq_iff_iff
abbrev ER:=@List.set_append_right
abbrev tM:=@Go.wpOps_cons
abbrev tN:=@Go.ready_mono
abbrev ET:=@List.mem_cons_of_mem
abbrev EU:=@List.mem_append_left
abbrev wm:=@Int.le_refl
abbrev EV:=@Bool.or_eq_false_iff
abbrev Ag:=@Bool.and_false
instance:Coe Int Value:=⟨λn=> .int .i64 n⟩
instance:Coe Unit Value:=⟨λ_=> .slice none 0 0⟩
instance:Coe Bool Value:=⟨.bool⟩
def aP:Fin 1:=0
instance:Coe (Fin 1) Value:=⟨λ_=> .int .i64 0⟩
instance:Coe Nat (Option Addr):=⟨λg=>some ⟨g,0,none⟩⟩
class Nx(w w':World)(A:Prop)(B:outParam Prop):Prop where
 f:RowKit.Below w.1.size w w'->A->B
theorem bE{n:Nat}:n<=n:=ev n
theorem cT{n:Nat}{w:World}:RowKit.Below n w w:=RowKit.Below.refl n w
def aK(p:Prop):Prop:=p
theorem aK.Z{p:Prop}(h:aK p):p:=h
theorem U{p:Prop}(h:p):aK p:=h
theorem ae4{p0 p1 p2 q:Prop}(k:aK p0->aK p1->aK p2->q):p0->p1->p2->q:=k
theorem ae5{p0 p1 p2 p3 q:Prop}(k:aK p0->aK p1->aK p2->aK p3->q):p0->p1->p2->p3->q:=k
theorem ae6{p0 p1 p2 p3 p4 q:Prop}(k:aK p0->aK p1->aK p2->aK p3->aK p4->q):p0->p1->p2->p3->p4->q:=k
theorem ae7{p0 p1 p2 p3 p4 p5 q:Prop}(k:aK p0->aK p1->aK p2->aK p3->aK p4->aK p5->q):p0->p1->p2->p3->p4->p5->q:=k
theorem ae8{p0 p1 p2 p3 p4 p5 p6 q:Prop}(k:aK p0->aK p1->aK p2->aK p3->aK p4->aK p5->aK p6->q):p0->p1->p2->p3->p4->p5->p6->q:=k
theorem ae9{p0 p1 p2 p3 p4 p5 p6 p7 q:Prop}(k:aK p0->aK p1->aK p2->aK p3->aK p4->aK p5->aK p6->aK p7->q):p0->p1->p2->p3->p4->p5->p6->p7->q:=k
theorem afa{p0 p1 p2 p3 p4 p5 p6 p7 p8 q:Prop}(k:aK p0->aK p1->aK p2->aK p3->aK p4->aK p5->aK p6->aK p7->aK p8->q):p0->p1->p2->p3->p4->p5->p6->p7->p8->q:=k
theorem ab4{p0 p1 p2 p3 p4 p5 p6 p7 p8 p9 q:Prop}(k:aK p0->aK p1->aK p2->aK p3->aK p4->aK p5->aK p6->aK p7->aK p8->aK p9->q):p0->p1->p2->p3->p4->p5->p6->p7->p8->p9->q:=k
theorem ab5{p0 p1 p2 p3 p4 p5 p6 p7 p8 p9 AR q:Prop}(k:aK p0->aK p1->aK p2->aK p3->aK p4->aK p5->aK p6->aK p7->aK p8->aK p9->aK AR->q):p0->p1->p2->p3->p4->p5->p6->p7->p8->p9->AR->q:=k
theorem ab6{p0 p1 p2 p3 p4 p5 p6 p7 p8 p9 AR p11 q:Prop}(k:aK p0->aK p1->aK p2->aK p3->aK p4->aK p5->aK p6->aK p7->aK p8->aK p9->aK AR->aK p11->q):p0->p1->p2->p3->p4->p5->p6->p7->p8->p9->AR->p11->q:=k
theorem j2{S:Nat->Prop}{n m:Nat}(h:∀b,S b->b<n)(q:n<=m):∀b,S b->b<m:=λb p=>aU (h b p) q
theorem dx{S:Nat->Prop}{n:Nat}{w w':World}(h:∀b,S b->b<n)(q:RowKit.Below n w w'):∀b,S b->w'.1[b]?=w.1[b]?:=λb p=>q.block b (h b p)
theorem cJ{α:Sort _}(a:α):∃b,a=b:=⟨_,rfl⟩
abbrev aY(w w':World):=RowKit.Below w.1.size w w'
end Go.Proofs.YtmgahjkopiaglaaGreat
namespace Go.Proofs.YtmgahjkopiaglaaGreat.W
section
variable{l t:List UInt8}{c:UInt8}{i n x m:Nat}
end
end Go.Proofs.YtmgahjkopiaglaaGreat.W
namespace Go.Proofs.YtmgahjkopiaglaaGreat.W
end Go.Proofs.YtmgahjkopiaglaaGreat.W
namespace Go.Proofs.YtmgahjkopiaglaaGreat.Pc
structure bG where
 node:Int
 state:Int
 steps:Int
 aQ:List Int
 bD:List (List (Int×Int))
 Z:List (List Int)
 deriving DecidableEq
def within(n low high:Int):Bool:=decide (low<=n/\n<=high)
theorem qO{n low high:Int}(h:low<=n/\n<=high):within n low high=true:=cV h
theorem nL{n low high:Int}(h:¬(low<=n/\n<=high)):within n low high=false:=bZ h
def rising:Int->List (Int×Int)->Bool
 |_,[]=>true
 |last,m::t=>decide (last<m.1/\m.1<=500/\0<=m.2/\m.2<=3)&&rising m.1 t
theorem Jy{last:Int}{m:Int×Int}{t:List (Int×Int)}(h:last<m.1/\m.1<=500/\0<=m.2/\m.2<=3):rising last (m::t)=rising m.1 t:=by
 rw[rising,cV h,pP]
theorem xA{last:Int}{m:Int×Int}{t:List (Int×Int)}(h:¬(last<m.1/\m.1<=500/\0<=m.2/\m.2<=3)):rising last (m::t)=false:=by
 rw[rising,bZ h,pt]
def wu(l:List Int):Bool:=decide (l.length<=500)&&l.all (λn=>within n 0 3)
def sj(p:bG):Bool:=
 decide ((0<=p.node/\p.node<=5)/\(0<=p.state/\p.state<=7)/\(0<=p.steps/\p.steps<=2147483647)/\p.aQ.length<=5/\p.bD.length<=5/\p.Z.length<=5)
def right(p:bG):Bool:=sj p&&(p.aQ.all (λn=>within n 0 500)&&(p.bD.all (rising 0)&&p.Z.all wu))
def idx{α:Type}(b:α->Bool):List α->Int
 |[]=> -1
 |x::t=>if b x then 0 else if 0<=idx b t then idx b t+1 else -1
theorem tO{α:Type}(b:α->Bool):∀l:List α,-1<=idx b l/\(0<=idx b l↔l.any b=true):=by
 intro l;induction l with
 |nil=>simp[idx]
 |cons x t ih=>
  have e:idx b (x::t)=if b x then 0 else if 0<=idx b t then idx b t+1 else -1:=rfl;generalize idx b (x::t)=z at e;rw[tG];by_cases I:b x=true
  ·rw[aS I] at e;subst e;simp[I]
  ·rw[aO I] at e;rw[tF.2 I,Bool.false_or,<-ih.2];by_cases h:0<=idx b t
   ·rw[aS h] at e;subst e;omega
   ·rw[aO h] at e;subst e;omega
theorem nX{α:Type}(b:α->Bool)(l:List α):-1<=idx b l/\(decide (0<=idx b l)=l.any b):=
 ⟨(tO b l).1,by rw[Af,decide_eq_true_iff];exact(tO b l).2⟩
theorem U3{α:Type}{b:α->Bool}:∀ {l:List α} {j:Nat} {x:α},(∀(i:Nat)(y:α),i<j->l[i]?=some y->b y=false)->l[j]?=some x->b x=true->idx b l=(j:Int):=by
 intro l;induction l with
 |nil=>intro j x _ h;simp at h
 |cons y t ih=>
  intro j x bY D I;cases j with
  |zero=>
   simp only[eR,tD] at D;subst D;simp[idx,I]
  |succ j=>
   have h0:=bY 0 y (by omega) rfl;have:=ih (j:=j) (x:=x) (λi z hi hz=>bY (i+1) z (by omega) (by simpa using hz)) (by simpa using D) I;simp only[idx,h0,tC,if_false,this];rw[aS (by omega)];omega
theorem O0{α:Type}{b:α->Bool}:∀ {l:List α},(∀(i:Nat)(y:α),l[i]?=some y->b y=false)->idx b l=-1:=by
 intro l;induction l with
 |nil=>intro _;rfl
 |cons y t ih=>
  intro h;have h0:=h 0 y rfl;have:=ih (λi z hz=>h (i+1) z (by simpa using hz));simp only[idx,h0,this];simp
def clear{α:Type}(b:α->Bool)(l:List α)(j:Nat):Prop:=∀(i:Nat)(y:α),i<j->l[i]?=some y->b y=false
theorem fI{α:Type}(b:α->Bool)(l:List α):clear b l 0:=λ_ _ h=>absurd h (jO _)
theorem ew{α:Type}{b:α->Bool}{l:List α}{j:Nat}{x:α}(h:clear b l j)(D:l[j]?=some x)(I:b x=false):clear b l (j+1):=by
 intro i y hi hy;rcases pQ i j with bY|Mv
 ·exact h i y bY hy
 ·obtain rfl:i=j:=by omega
  rw[D] at hy;injection hy with hy;subst hy;exact I
theorem gd{α:Type}{b:α->Bool}{l:List α}(h:clear b l l.length):idx b l=-1:=
 O0 λi y hy=>h i y (eD.1 hy).1 hy
theorem iT{α:Type}{b:α->Bool}{l:List α}{j:Nat}{x:α}(h:clear b l j)(D:l[j]?=some x)(I:b x=true):idx b l=(j:Int):=U3 h D I
theorem Mw{α:Type}{b:α->Bool}{l:List α}(h:clear b l l.length):l.any b=false:=by
 rw[<-(nX b l).2,gd h];rfl
def O1{α:Type}(b:α->Bool)(l:List α)(j:Nat):Prop:=∀(i:Nat)(y:α),i<j->l[i]?=some y->b y=true
theorem xB{α:Type}(b:α->Bool)(l:List α):O1 b l 0:=λ_ _ h=>absurd h (jO _)
theorem xC{α:Type}{b:α->Bool}{l:List α}{j:Nat}{x:α}(h:O1 b l j)(D:l[j]?=some x)(I:b x=true):O1 b l (j+1):=by
 intro i y hi hy;rcases pQ i j with bY|Mv
 ·exact h i y bY hy
 ·obtain rfl:i=j:=by omega
  rw[D] at hy;injection hy with hy;subst hy;exact I
theorem AS{α:Type}{b:α->Bool}{l:List α}(h:O1 b l l.length):l.all b=true:=by
 rw[eT];intro x D;obtain⟨i,hi⟩:=List.mem_iff_getElem?.1 D;exact h i x (eD.1 hi).1 hi
theorem Ah{α:Type}{b:α->Bool}{l:List α}{j:Nat}{x:α}(D:l[j]?=some x)(I:b x=false):l.all b=false:=by
 rw[<-Bool.not_eq_true,eT];intro h;rw[h x (dV D)] at I;cases I
theorem Ai{α:Type}{l:List α}{j:Nat}{x:α}(D:l[j]?=some x):l.drop j=x::l.drop (j+1):=by
 obtain⟨h,rfl⟩:=eD.1 D;exact AQ h
theorem get_at{α:Type}{l:List α}{j:Nat}(h:j<l.length):∃x,l[j]?=some x:=⟨_,eu h⟩
theorem EX{α:Type}(b:α->Bool)(l:List α):l.any (λx=> !b x)= !l.all b:=by
 induction l with
 |nil=>rfl
 |cons x t ih=>simp[ih]
theorem uM:∀(x:List (Int×Int))(last:Int),rising last x=true->last<=500->(x.length:Int)<=500-last:=by
 intro x;induction x with
 |nil=>intro last _ h;simpa using h
 |cons m t ih=>
  intro last h hl;simp only[rising,cQ,dC] at h;have:=ih m.1 h.2 h.1.2.1;simp only[fF,Int.natCast_add,Int.natCast_one];have:=h.1.1;omega
theorem de{α:Type}{l:List α}{j:Nat}{x:α}(D:l[j]?=some x):l.take (j+1)=l.take j++[x]:=by
 rw[zZ,D];rfl
end Go.Proofs.YtmgahjkopiaglaaGreat.Pc
namespace Go.Proofs.YtmgahjkopiaglaaGreat
structure Fr where
 kind:Int
 aC:Int
 seq:Int
 bB:Int
 pieces:List Pc.bG
 init:Int
 num:Int
 count:Int
 path:List Int
deriving DecidableEq
namespace Fr
def zero:Fr:=⟨0,0,0,0,[],0,0,0,[]⟩
def only(f:Fr):Fr:=
 if f.kind=0 then⟨0,f.aC,f.seq,f.bB,[],0,0,0,[]⟩ else
 if f.kind=5 then⟨5,f.aC,0,0,f.pieces,0,0,0,[]⟩ else
 if f.kind=6 then⟨6,0,0,0,[],f.init,f.num,f.count,f.path⟩ else⟨f.kind,f.aC,0,0,[],0,0,0,[]⟩
def node(n:Int):Bool:=Pc.within n 0 5
def yh(f:Fr):Bool:=Pc.within f.init 0 5&&(Pc.within f.num 1 200&&(Pc.within f.count 0 500&&(Pc.within f.path.length 1 6&&f.path.all node)))
def control(f:Fr):Bool:=Pc.within f.aC 1 200
def app(f:Fr):Bool:=Pc.within f.aC 0 200&&(Pc.within f.seq 1 500&&Pc.within f.bB 0 3)
def report(f:Fr):Bool:=control f&&(Pc.within f.pieces.length 1 6&&f.pieces.all Pc.right)
def Jz(f:Fr):Bool:=if f.kind=0 then app f else if f.kind=5 then report f else if f.kind=6 then yh f else control f
def right(f:Fr):Bool:=Pc.within f.kind 0 6&&(decide (f=only f)&&Jz f)
theorem EY{a b:Fr}(h:¬(a.kind=b.kind/\a.aC=b.aC/\a.seq=b.seq/\a.bB=b.bB/\a.pieces=b.pieces/\a.init=b.init/\a.num=b.num/\a.count=b.count/\a.path=b.path)):decide (a=b)=false:=by
 apply bZ;rintro rfl;exact h ⟨rfl,rfl,rfl,rfl,rfl,rfl,rfl,rfl,rfl⟩
theorem JA{f:Fr}(h:right f=true):0<=f.kind/\f.kind<=6:=by
 unfold right at h;simp only[cQ,dC] at h;exact eM h.1
end Fr
end Go.Proofs.YtmgahjkopiaglaaGreat
namespace Go.Proofs.YtmgahjkopiaglaaGreat
open Go.RowKit Go.Proofs.Tryz
theorem nY{base:Nat}{w w':World}{v:Value}{e:TypeId}{size n:Nat}{xs:List Value}(cG:w.ownsRow base e size v n xs)(hg:w.grownBy w' v.ownBlock)(I:base<=w.1.size):Below base w w':=
 (bI _ _).grown hg I (λk Q=>(cG.lt k Q).1)
theorem jS{P:Program}{w:World}{ops:Array Oper}{rest:List Oper}{o:Oper}{a:Act}{ao:Exit->Act->World->Prop}(o7:o.guard=none)(s x:Operand)(t:TypeId)
 (ho:o.op=.call {callee:=.builtin .append,args:=#[s,x],argTypes:=#[t,t]})
 (base:Nat)(e:TypeId){z:Value}{bytes:Nat}(fU:(P.info? e).map (λi=>(i.zero,i.size,i.bytes))=some (some z,1,bytes))(ht:P.underlying t=some (.slice e))(nZ:z.cells.size=1)
 (v:Value)(n:Nat)(xs:List Value)(hs:a.eval s=v)(cG:w.ownsRow base e 1 v n xs)
 (u:Value)(D:a.eval x=.slice w.1.size 1 1)(F:u.oneCell'=true)
 (jf:(n+1) * bytes<=140737488355328)(Aj:n+1<=9223372036854775807)(ko:base<=w.1.size)
 (h:∀v' w',w'.ownsRow base e 1 v' (n+1) (xs++[u])->w.grownBy w' v.ownBlock->Below base w w'->wpList P ops ao rest (a.put o.dst v') w'):
 wpList P ops ao (o::rest) a (w.alloc (.cells #[u] e)):=by
 obtain⟨i0,CI,Gf,xj,mJ⟩:=mC fU;have AT:∀j u',[u][j]?=some u'->(w.alloc (.cells #[u] e)).cell? ((⟨w.1.size,0,none⟩:Addr).add j)=some u':=by
  intro j u' hu;cases j with
  |zero=>simp only[eR,tD] at hu;subst hu;simp[Addr.add,World.cell?_alloc_new]
  |succ j=>simp at hu
 have O3:(w.alloc (.cells #[u] e)).ownsRow base e 1 v n xs:=cG.alloc _;refine wpList_append_own _ o7 s x t ho base e i0 z 1 bytes ht CI Gf xj mJ nZ (by omega) v n xs hs O3 _ 1 1 [u] D rfl AT (by simpa using F) (by unfold maxLen;omega) jf (by simp;omega) ?_;intro v' w' ho' Dx _;have Gg:w.grownBy w' v.ownBlock:=by
  have h0:=World.grownBy_alloc w (.cells #[u] e) v.ownBlock;exact⟨Dx.os.trans h0.os,Dx.tape.trans h0.tape,Dx.output.trans h0.output,bT h0.size Dx.size,λk Q fz=>(Dx.block k (by simp;omega) fz).trans (h0.block k Q fz)⟩
 exact h v' w' ho' Gg (nY cG Gg ko)
theorem wv{w:World}{base TV:Nat}{e:TypeId}{size:Nat}{v:Value}{n:Nat}{xs:List Value}(h:w.ownsRow base e size v n xs)(I:TV<=base):w.ownsRow TV e size v n xs:=by
 refine⟨h.1,?_⟩;rcases h.2 with R|⟨g,cap,cur,hv,hg,r⟩
 ·exact .inl R
 ·exact .inr ⟨g,cap,cur,hv,by omega,r⟩
end Go.Proofs.YtmgahjkopiaglaaGreat
namespace Go.Proofs.YtmgahjkopiaglaaGreat
open Go.RowKit Go.Proofs.Tryz
theorem below_2(w:World)(o o':Obj):aY w ((w.alloc o).alloc o'):=((bI _ _).alloc (ev _) o).alloc (by simp) o'
end Go.Proofs.YtmgahjkopiaglaaGreat
namespace Go.Proofs.YtmgahjkopiaglaaGreat
open Go.RowKit Go.Proofs.Tryz
theorem Tryz.eG:(prog.info? 3).map (λi=>(i.zero,i.size,i.bytes))=some (some (.int .i64 0),1,8):=by kernel_rfl
end Go.Proofs.YtmgahjkopiaglaaGreat
namespace Go.Proofs.YtmgahjkopiaglaaGreat
open Go.RowKit Go.Proofs.Tryz
structure Y(α:Type) where
 size:Nat
 pos:0<size
 is:Bool->World->(Nat->Prop)->List Value->α->Prop
 len:∀ {fr w S cs a},is fr w S cs a->cs.length=size
 aE:∀ {fr w w' S cs a},is fr w S cs a->(∀b,S b->w'.1[b]?=w.1[b]?)->is fr w' S cs a
 aF:∀ {fr w S S' cs a},is fr w S cs a->(∀b,S b->S' b)->is fr w S' cs a
 soft:∀ {fr w S cs a},is fr w S cs a->is false w S cs a
 one:∀ {fr w S cs a},is fr w S cs a->∀u∈cs,u.oneCell'=true
def bO(lo hi:Nat)(b:Nat):Prop:=lo<=b/\b<hi
theorem xD{lo hi Gh AU:Nat}(F:Gh<=lo)(R:hi<=AU):∀b,bO lo hi b->bO Gh AU b:=λ_ h=>⟨bT F h.1,aU h.2 R⟩
section
variable{α:Type}(r:Y α)
def Y.all(fr:Bool)(w:World)(S:Nat->Prop):List Value->List α->Prop
 |cells,[]=>cells=[]
 |cells,x::xs=>∃cs rest,cells=cs++rest/\r.is fr w S cs x/\Y.all fr w S rest xs
end
section
variable{α:Type}{r:Y α}{fr:Bool}{w w':World}{S S':Nat->Prop}{cells:List Value}{xs:List α}
theorem Y.wy:∀ {xs:List α} {cells:List Value},r.all fr w S cells xs->cells.length=xs.length * r.size:=by
 intro xs;induction xs with
 |nil=>intro cells h;simp only[Y.all] at h;subst h;simp
 |cons x xs ih=>
  intro cells h;obtain⟨cs,rest,rfl,F,R⟩:=h;rw[dh,r.len F,ih R,fF,nV,Nat.add_comm]
theorem Y.ej(Q:∀b,S b->w'.1[b]?=w.1[b]?):∀ {xs:List α} {cells:List Value},r.all fr w S cells xs->r.all fr w' S cells xs:=by
 intro xs;induction xs with
 |nil=>intro cells h;exact h
 |cons x xs ih=>
  intro cells h;obtain⟨cs,rest,rfl,F,R⟩:=h;exact⟨cs,rest,rfl,r.aE F Q,ih R⟩
theorem Y.jw(F:∀b,S b->S' b):∀ {xs:List α} {cells:List Value},r.all fr w S cells xs->r.all fr w S' cells xs:=by
 intro xs;induction xs with
 |nil=>intro cells h;exact h
 |cons x xs ih=>
  intro cells h;obtain⟨cs,rest,rfl,h3,h4⟩:=h;exact⟨cs,rest,rfl,r.aF h3 F,ih h4⟩
theorem Y.O4:∀ {xs:List α} {cells:List Value},r.all fr w S cells xs->r.all false w S cells xs:=by
 intro xs;induction xs with
 |nil=>intro cells h;exact h
 |cons x xs ih=>
  intro cells h;obtain⟨cs,rest,rfl,h3,h4⟩:=h;exact⟨cs,rest,rfl,r.soft h3,ih h4⟩
theorem Y.Ak:∀ {xs:List α} {cells:List Value},r.all fr w S cells xs->∀u∈cells,u.oneCell'=true:=by
 intro xs;induction xs with
 |nil=>intro cells h;simp only[Y.all] at h;subst h;simp
 |cons x xs ih=>
  intro cells h;obtain⟨cs,rest,rfl,h3,h4⟩:=h;intro u hu;rcases nf.1 hu with hu|hu
  ·exact r.one h3 u hu
  ·exact ih h4 u hu
theorem Y.all_append:∀ {xs ys:List α} {c1 c2:List Value},r.all fr w S c1 xs->r.all fr w S c2 ys->r.all fr w S (c1++c2) (xs++ys):=by
 intro xs;induction xs with
 |nil=>intro ys c1 c2 h R;simp only[Y.all] at h;subst h;simpa using R
 |cons x xs ih=>
  intro ys c1 c2 h R;obtain⟨cs,rest,rfl,h3,h4⟩:=h;exact⟨cs,rest++c2,by simp,h3,ih h4 R⟩
theorem Y.JB{cs:List Value}{x:α}(h:r.is fr w S cs x):r.all fr w S cs [x]:=⟨cs,[],by simp,h,rfl⟩
theorem Y.sm{cs:List Value}{x:α}(h:r.all fr w S cells xs)(F:r.is fr w S cs x):r.all fr w S (cells++cs) (xs++[x]):=Y.all_append h (Y.JB F)
theorem Y.GG:∀(k:Nat) {xs:List α} {cells:List Value},r.all fr w S cells xs->r.all fr w S (cells.take (k * r.size)) (xs.take k):=by
 intro k;induction k with
 |zero=>intro xs cells _;simp[Y.all]
 |succ k ih=>
  intro xs cells h;cases xs with
  |nil=>simp only[Y.all] at h;subst h;simp[Y.all]
  |cons x xs=>
   obtain⟨cs,rest,rfl,h3,h4⟩:=h;have hl:=r.len h3;rw[List.take_succ_cons,List.take_append];have e1:cs.take ((k+1) * r.size)=cs:=jL (by rw[hl,nV];omega);have e2:(k+1) * r.size-cs.length=k * r.size:=by rw[hl,nV];omega
   rw[e1,e2];exact⟨cs,_,rfl,h3,ih h4⟩
theorem Y.O5:∀(k:Nat) {xs:List α} {cells:List Value},r.all fr w S cells xs->r.all fr w S (cells.drop (k * r.size)) (xs.drop k):=by
 intro k;induction k with
 |zero=>intro xs cells h;simpa using h
 |succ k ih=>
  intro xs cells h;cases xs with
  |nil=>simp only[Y.all] at h;subst h;simp[Y.all]
  |cons x xs=>
   obtain⟨cs,rest,rfl,h3,h4⟩:=h;have hl:=r.len h3;rw[List.drop_succ_cons,wa];have e1:cs.drop ((k+1) * r.size)=[]:=uI (by rw[hl,nV];omega);have e2:(k+1) * r.size-cs.length=k * r.size:=by rw[hl,nV];omega
   rw[e1,e2,gh];exact ih h4
theorem Y.O6:∀ {xs:List α} {cells:List Value} {k:Nat} {x:α},r.all fr w S cells xs->xs[k]?=some x->∃cs,r.is fr w S cs x/\∀j u,cs[j]?=some u->cells[k * r.size+j]?=some u:=by
 intro xs;induction xs with
 |nil=>intro cells k x _ D;simp at D
 |cons y ys ih=>
  intro cells k x h D;obtain⟨cs,rest,rfl,h3,h4⟩:=h;have hl:=r.len h3;cases k with
  |zero=>
   simp only[eR,tD] at D;subst D;refine⟨cs,h3,λj u hj=>?_⟩;have bY:j<cs.length:=(eD.1 hj).1;rw[Nat.zero_mul,iR,lF bY];exact hj
  |succ k=>
   simp only[eZ] at D;obtain⟨c2,h5,h6⟩:=ih h4 D;refine⟨c2,h5,λj u hj=>?_⟩;rw[pJ (by rw[hl,nV];omega),show(k+1) * r.size+j-cs.length=k * r.size+j from by rw[hl,nV];omega];exact h6 j u hj
end
section
variable{α:Type}(r:Y α)
def dm(fr:Bool)(w:World)(S:Nat->Prop)(A:Option Addr)(xs:List α):Prop:=
 ∃cells,r.all fr w S cells xs/\(0<xs.length->∃g o,A=some ⟨g,o,none⟩/\S g/\∀j u,cells[j]?=some u->w.cell? ⟨g,o+j,none⟩=some u/\(fr=true->w.frozen? ⟨g,o+j,none⟩=false))
def ay(fr:Bool)(w:World)(S:Nat->Prop)(v:Value)(xs:List α):Prop:=
 ∃A c,v=.slice A xs.length c/\xs.length<=c/\c<=maxLen/\dm r fr w S A xs
def dM(fr:Bool)(w:World)(lo hi:Nat)(A:Option Addr)(xs:List α):Prop:=dm r fr w (bO lo hi) A xs
def aM(fr:Bool)(w:World)(lo hi:Nat)(v:Value)(xs:List α):Prop:=∃A c,v=.slice A xs.length c/\xs.length<=c/\c<=maxLen/\dM r fr w lo hi A xs
end
section
variable{α:Type}{r:Y α}{fr:Bool}{w w':World}{S S':Nat->Prop}{lo hi Gh AU:Nat}{A:Option Addr}{v:Value}{xs:List α}
theorem aM.on(h:aM r fr w lo hi v xs):ay r fr w (bO lo hi) v xs:=h
theorem ay.Mx(h:ay r fr w (bO lo hi) v xs):aM r fr w lo hi v xs:=h
theorem dU{w w':World}{g o:Nat}(h:w'.1[g]?=w.1[g]?):w'.frozen? ⟨g,o,none⟩=w.frozen? ⟨g,o,none⟩:=by
 simp only[World.frozen?,h]
theorem dy{w w':World}{g o:Nat}(h:w'.1[g]?=w.1[g]?):w'.cell? ⟨g,o,none⟩=w.cell? ⟨g,o,none⟩:=World.cell?_of_block h
theorem dm.aE(h:dm r fr w S A xs)(Q:∀b,S b->w'.1[b]?=w.1[b]?):dm r fr w' S A xs:=by
 obtain⟨cells,F,R⟩:=h;refine⟨cells,Y.ej Q F,λhn=>?_⟩;obtain⟨g,o,rfl,h3,h5⟩:=R hn;refine⟨g,o,rfl,h3,λj u hj=>?_⟩;have I:=Q g h3;rw[dy I,dU I];exact h5 j u hj
theorem dm.aF(h:dm r fr w S A xs)(F:∀b,S b->S' b):dm r fr w S' A xs:=by
 obtain⟨cells,h3,h4⟩:=h;refine⟨cells,Y.jw F h3,λhn=>?_⟩;obtain⟨g,o,rfl,h5,h7⟩:=h4 hn;exact⟨g,o,rfl,F _ h5,h7⟩
theorem dm.soft(h:dm r fr w S A xs):dm r false w S A xs:=by
 obtain⟨cells,h3,h4⟩:=h;refine⟨cells,Y.O4 h3,λhn=>?_⟩;obtain⟨g,o,rfl,h5,h7⟩:=h4 hn;exact⟨g,o,rfl,h5,λj u hj=>⟨(h7 j u hj).1,λh=>by cases h⟩⟩
theorem ay.aE(h:ay r fr w S v xs)(Q:∀b,S b->w'.1[b]?=w.1[b]?):ay r fr w' S v xs:=by
 obtain⟨A,c,F,R,h3,h4⟩:=h;exact⟨A,c,F,R,h3,h4.aE Q⟩
theorem ay.aF(h:ay r fr w S v xs)(F:∀b,S b->S' b):ay r fr w S' v xs:=by
 obtain⟨A,c,h3,h4,h5,h6⟩:=h;exact⟨A,c,h3,h4,h5,h6.aF F⟩
theorem ay.soft(h:ay r fr w S v xs):ay r false w S v xs:=by
 obtain⟨A,c,h3,h4,h5,h6⟩:=h;exact⟨A,c,h3,h4,h5,h6.soft⟩
theorem ay.none_:ay r fr w S (.slice none 0 0) []:=⟨none,0,rfl,ev _,by unfold maxLen;omega,[],rfl,λh=>absurd h (by simp)⟩
theorem dM.aE(h:dM r fr w lo hi A xs)(Q:∀b,lo<=b->b<hi->w'.1[b]?=w.1[b]?):dM r fr w' lo hi A xs:=dm.aE h λb I=>Q b I.1 I.2
theorem dM.aF(h:dM r fr w lo hi A xs)(F:Gh<=lo)(R:hi<=AU):dM r fr w Gh AU A xs:=dm.aF h (xD F R)
theorem dM.soft(h:dM r fr w lo hi A xs):dM r false w lo hi A xs:=dm.soft h
theorem dM.below{B:Nat}(h:dM r fr w lo hi A xs)(I:Below B w w')(J:hi<=B):dM r fr w' lo hi A xs:=h.aE λb _ R=>I.block b (by omega)
theorem dm.at_{k:Nat}{x:α}(h:dm r fr w S A xs)(D:xs[k]?=some x):
 ∃g o cs,A=some ⟨g,o,none⟩/\S g/\r.is fr w S cs x/\∀j u,cs[j]?=some u->w.cell? ⟨g,o+(k * r.size+j),none⟩=some u/\(fr=true->w.frozen? ⟨g,o+(k * r.size+j),none⟩=false):=by
 obtain⟨cells,F,R⟩:=h;have bY:k<xs.length:=(eD.1 D).1;obtain⟨g,o,rfl,h3,h5⟩:=R (by omega);obtain⟨cs,h6,h7⟩:=Y.O6 F D;exact⟨g,o,cs,rfl,h3,h6,λj u hj=>h5 _ _ (h7 j u hj)⟩
theorem aM.aE(h:aM r fr w lo hi v xs)(Q:∀b,lo<=b->b<hi->w'.1[b]?=w.1[b]?):aM r fr w' lo hi v xs:=by
 obtain⟨A,c,F,R,h3,h4⟩:=h;exact⟨A,c,F,R,h3,h4.aE Q⟩
theorem aM.below{B:Nat}(h:aM r fr w lo hi v xs)(I:Below B w w')(J:hi<=B):aM r fr w' lo hi v xs:=h.aE λb _ R=>I.block b (by omega)
theorem aM.aF(h:aM r fr w lo hi v xs)(F:Gh<=lo)(R:hi<=AU):aM r fr w Gh AU v xs:=by
 obtain⟨A,c,h3,h4,h5,h6⟩:=h;exact⟨A,c,h3,h4,h5,h6.aF F R⟩
theorem aM.soft(h:aM r fr w lo hi v xs):aM r false w lo hi v xs:=by
 obtain⟨A,c,h3,h4,h5,h6⟩:=h;exact⟨A,c,h3,h4,h5,h6.soft⟩
theorem aM.none_:aM r fr w lo hi (.slice none 0 0) []:=⟨none,0,rfl,ev _,by unfold maxLen;omega,[],rfl,λh=>absurd h (by simp)⟩
theorem dm.take(k:Nat)(h:dm r fr w S A xs):dm r fr w S A (xs.take k):=by
 obtain⟨cells,h3,h4⟩:=h;refine⟨cells.take (k * r.size),Y.GG k h3,λhn=>?_⟩;obtain⟨g,o,rfl,h5,h7⟩:=h4 (by simp at hn;omega);refine⟨g,o,rfl,h5,λj u hj=>h7 j u ?_⟩;rw[zX] at hj;split at hj
 ·exact hj
 ·cases hj
theorem ay.ie{base:Nat}{e:TypeId}{cells:List Value}(h:w.ownsRow base e r.size v xs.length cells)(ha:r.all fr w S cells xs)(hS:∀g,v.ownBlock=some g->S g):ay r fr w S v xs:=by
 obtain⟨hlen,h0|⟨g,cap,cur,rfl,hg,hh,hnc,CJ,fM,htake⟩⟩:=h
 ·obtain⟨rfl,h3⟩:=h0;have:xs=[]:=ib (by omega);subst this;exact ay.none_
 ·have cG:w.ownsRow base e r.size (.slice (some ⟨g,0,none⟩) xs.length cap) xs.length cells:=⟨hlen,.inr ⟨g,cap,cur,rfl,hg,hh,hnc,CJ,fM,htake⟩⟩;refine⟨_,cap,rfl,hnc,CJ,cells,ha,λ_=>⟨g,0,rfl,hS g rfl,λj u hj=>?_⟩⟩;have:=cG.cells (g:=g) rfl j u hj;rw[iR];have e:(⟨g,0,none⟩:Addr).add j=⟨g,j,none⟩:=by
   unfold Addr.add;split
   ·subst_vars;rfl
   ·simp
  rw[e] at this;refine⟨this,λ_=>?_⟩;simp[World.frozen?,hh]
theorem aM.ie{base:Nat}{e:TypeId}{cells:List Value}(h:w.ownsRow base e r.size v xs.length cells)(ha:r.all fr w (bO lo hi) cells xs)(F:lo<=base)(R:w.1.size<=hi):aM r fr w lo hi v xs:=
 ay.ie h ha λg hg=>⟨bT F (h.lt g hg).1,aU (h.lt g hg).2 R⟩
end
def Y.int:Y Int where
 size:=1
 pos:=by omega
 is _ _ _ cs a:=cs=[.int .i64 a]
 len h:=by rw[h];rfl
 aE h _:=h
 aF h _:=h
 soft h:=h
 one h:=by rw[h];intro u hu;simp at hu;subst hu;rfl
def Y.msg:Y (Int×Int) where
 size:=2
 pos:=by omega
 is _ _ _ cs a:=cs=[.int .i64 a.1,.int .i64 a.2]
 len h:=by rw[h];rfl
 aE h _:=h
 aF h _:=h
 soft h:=h
 one h:=by rw[h];intro u hu;simp at hu;rcases hu with rfl |rfl<;>rfl
def Y.slice{α:Type}(r:Y α):Y (List α) where
 size:=1
 pos:=by omega
 is fr w S cs a:=∃v,cs=[v]/\ay r fr w S v a
 len h:=by obtain⟨v,rfl,_⟩:=h;rfl
 aE h Q:=by obtain⟨v,rfl,h⟩:=h;exact⟨v,rfl,h.aE Q⟩
 aF h F:=by obtain⟨v,rfl,h⟩:=h;exact⟨v,rfl,h.aF F⟩
 soft h:=by obtain⟨v,rfl,h⟩:=h;exact⟨v,rfl,h.soft⟩
 one h:=by
  obtain⟨v,rfl,A,c,rfl,_⟩:=h;intro u hu;simp at hu;subst hu;rfl
section
variable{fr:Bool}{w:World}{lo hi k:Nat}{A:Option Addr}
theorem dM.int{xs:List Int}{x:Int}(h:dM Y.int fr w lo hi A xs)(D:xs[k]?=some x):
 ∃g o,A=some ⟨g,o,none⟩/\lo<=g/\g<hi/\w.cell? ⟨g,o+k,none⟩=some (.int .i64 x):=by
 obtain⟨g,o,cs,rfl,F,h3,h4⟩:=dm.at_ h D;have xG:cs=[.int .i64 x]:=h3;subst xG;have:=(h4 0 _ rfl).1;exact⟨g,o,rfl,F.1,F.2,by simpa[Y.int] using this⟩
theorem dM.msg{xs:List (Int×Int)}{x:Int×Int}(h:dM Y.msg fr w lo hi A xs)(D:xs[k]?=some x):
 ∃g o,A=some ⟨g,o,none⟩/\lo<=g/\g<hi/\w.cell? ⟨g,o+k * 2,none⟩=some (.int .i64 x.1)/\w.cell? ⟨g,o+k * 2+1,none⟩=some (.int .i64 x.2):=by
 obtain⟨g,o,cs,rfl,F,h3,h4⟩:=dm.at_ h D;have xG:cs=[.int .i64 x.1,.int .i64 x.2]:=h3;subst xG;have e0:=(h4 0 _ rfl).1;have e1:=(h4 1 _ rfl).1;exact⟨g,o,rfl,F.1,F.2,by simpa[Y.msg] using e0,by simpa[Y.msg,fK] using e1⟩
theorem dM.row{α:Type}{r:Y α}{xs:List (List α)}{x:List α}(h:dM r.slice fr w lo hi A xs)(D:xs[k]?=some x):
 ∃g o v,A=some ⟨g,o,none⟩/\lo<=g/\g<hi/\w.cell? ⟨g,o+k,none⟩=some v/\aM r fr w lo hi v x:=by
 obtain⟨g,o,cs,rfl,F,⟨v,rfl,h3⟩,h4⟩:=dm.at_ h D;have:=(h4 0 _ rfl).1;exact⟨g,o,v,rfl,F.1,F.2,by simpa[Y.slice] using this,h3⟩
end
end Go.Proofs.YtmgahjkopiaglaaGreat
namespace Go.Proofs.YtmgahjkopiaglaaGreat
open Go.RowKit Go.Proofs.Tryz
theorem so(n m:Int)(w:World):Calls prog 186 #[n,m] w λx w'=>x=.returned (.bool (Pc.within n 0 m))/\w=w':=by
 generalize I:Pc.within n 0 m=b;change aK _ at I;by_cases h0:0<=n
 ·by_cases F:n<=m;all_goals
   go_in;go_wp2;go_ret
  ·exact⟨by rw[<-I.Z,Pc.qO ⟨h0,F⟩];rfl,rfl⟩
  ·exact⟨by rw[<-I.Z,Pc.nL (by omega)];rfl,rfl⟩
 ·go_in;go_wp2;go_ret;exact⟨by rw[<-I.Z,Pc.nL (by omega)];rfl,rfl⟩
theorem fV(n m:Int)(h:0<=n/\n<=m)(w:World):Calls prog 186 #[n,m] w λx w'=>x=.returned (.bool true)/\w=w':=by
 have:=so n m w;rwa[Pc.qO h] at this
theorem n5(n m:Int)(h:¬(0<=n/\n<=m))(w:World):Calls prog 186 #[n,m] w λx w'=>x=.returned (.bool false)/\w=w':=by
 have:=so n m w;rwa[Pc.nL h] at this
def U4(ms:List (Int×Int))(w:World)(k:Nat)(last i:Value)(wr:World):Prop:=
 ∃(j:Nat)(lv:Int),i=.int .i64 (j:Int)/\j<=ms.length/\k=ms.length-j/\last=.int .i64 lv/\Pc.rising 0 ms=Pc.rising lv (ms.drop j)/\aY w wr
theorem JC(v:Value)(ms:List (Int×Int))(w:World)(h:aM Y.msg false w 0 w.1.size v ms):Calls prog 187 #[v] w
 λx w'=>x=.returned (.bool (Pc.rising 0 ms))/\aY w w':=by
 obtain⟨A,c,rfl,hl,hm,hA⟩:=h;unfold maxLen at hm;go_in;go_wp2;go_loopg [3,5,8] ms.length (λk last _ i wr=>U4 ms w k last i wr)
 case atStart=>exact⟨0,0,rfl,by omega,by omega,rfl,rfl,bI _ _⟩
 case round=>
  obtain⟨j,lv,rfl,hj,Q,rfl,hr,I⟩:=hrel;replace hr:=U hr;replace Q:=U Q;by_cases bY:j<ms.length
  ·obtain⟨⟨s,l⟩,D⟩:=Pc.get_at bY;obtain⟨g,o,rfl,_,hg,c0,c1⟩:=(hA.below I (ev _)).msg D;rw[Pc.Ai D] at hr;replace D:=U D;dsimp only at c0 c1;clear hA;by_cases q1:lv<s
   ·by_cases q2:s<=500
    ·by_cases q3:0<=l/\l<=3
     ·go_wp2_with fail;refine(fV _ _ q3 _).mono ?_;rintro e w1 ⟨rfl,rfl⟩;go_wp2;go_roundg (ms.length-(j+1))
      case rel=>exact⟨j+1,s,by simp,by omega,rfl,rfl,by rw[hr.Z,Pc.Jy ⟨q1,q2,q3⟩],I.alloc I.size _⟩
      case measure=>have:=Q.Z;omega
     ·go_wp2_with fail;refine(n5 _ _ q3 _).mono ?_;rintro e w1 ⟨rfl,rfl⟩;go_wp2;go_ret;exact⟨by rw[hr.Z,Pc.xA (λh=>q3 h.2.2)];rfl,I.alloc I.size _⟩
    ·go_wp2;go_ret;exact⟨by rw[hr.Z,Pc.xA (by dsimp only;omega)];rfl,I.alloc I.size _⟩
   ·go_wp2;go_ret;exact⟨by rw[hr.Z,Pc.xA (by dsimp only;omega)];rfl,I.alloc I.size _⟩
  ·go_wp2;go_ret;exact⟨by rw[hr.Z,uI (by omega)];rfl,I⟩
theorem CX(aa:Nat)(K:∀(args:Array Value)(w:World),(callFunc aa args).run prog w=.ok (.enter aa args) w)(b:Int->Bool)(hF:∀(n:Int) w,Calls prog aa #[n] w λx w'=>x=.returned (.bool (b n))/\w=w')(v:Value)(xs:List Int)(w:World)(h:aM Y.int false w 0 w.1.size v xs):
 Calls prog 222 #[v,.func (.func aa) #[] #[]] w λx w'=>x=.returned (.int .i64 (Pc.idx b xs))/\aY w w':=by
 obtain⟨A,c,rfl,hl,hm,hA⟩:=h;unfold maxLen at hm;change aK _ at hF;go_in;go_wp2;go_loopg [5,8] xs.length (λk _ i wr=>∃j:Nat,i=.int .i64 (j:Int)/\j<=xs.length/\k=xs.length-j/\Pc.clear b xs j/\aY w wr)
 case atStart=>exact⟨0,rfl,by omega,by omega,Pc.fI _ _,bI _ _⟩
 case round=>
  obtain⟨j,rfl,hj,Q,hr,I⟩:=hrel;replace hr:=U hr;change aK _ at Q;by_cases bY:j<xs.length
  ·obtain⟨x,D⟩:=Pc.get_at bY;obtain⟨g,o,rfl,_,hg,c0⟩:=(hA.below I (ev _)).int D;replace D:=U D;clear hA;go_wp2_with fail;refine(hF _ _).mono ?_;rintro e w1 ⟨rfl,rfl⟩;cases ga:b x;all_goals
    change aK _ at ga;go_wp2_with fail
   ·go_roundg (xs.length-(j+1))
    case rel=>exact⟨j+1,by simp,by omega,rfl,Pc.ew hr.Z D.Z ga.Z,I⟩
    case measure=>have:=Q.Z;omega
   ·go_ret;exact⟨by rw[Pc.iT hr.Z D.Z ga.Z];rfl,I⟩
  ·go_wp2;go_ret;have jx:j=xs.length:=by omega
   subst jx;exact⟨by rw[Pc.gd hr.Z];rfl,I⟩
theorem pW(aa:Nat)(K:∀(args:Array Value)(w:World),(callFunc aa args).run prog w=.ok (.enter aa args) w)(b:Int->Bool)(hF:∀(n:Int) w,Calls prog aa #[n] w λx w'=>x=.returned (.bool (b n))/\w=w')(v:Value)(xs:List Int)(w:World)(h:aM Y.int false w 0 w.1.size v xs):
 Calls prog 189 #[v,.func (.func aa) #[] #[]] w λx w'=>x=.returned (.bool (xs.any b))/\aY w w':=by
 have hi:=λw h=>CX aa K b hF v xs w h;have hg:=Pc.nX b xs;generalize Pc.idx b xs=i at hi hg;replace hi:=U hi;rw[<-hg.2];clear hg;go_in;go_wp2_with fail;refine(hi _ h).mono ?_;rintro e w1 ⟨rfl,I⟩;go_wp2;go_ret;exact⟨rfl,I⟩
end Go.Proofs.YtmgahjkopiaglaaGreat
namespace Go.Proofs.YtmgahjkopiaglaaGreat
open Go.RowKit Go.Proofs.Tryz
@[go_sem high] theorem Rq{P:Program}(w:World)(ts:Array TypeId)(t:TypeId)(k k' k'':IntKind)(x y z:Int):
 (Builtin.max_ ts t #[.int k x,.int k' y,.int k'' z]).run P w=.ok (.int k (max (max x y) z)) w:=by
 have e:∀x y:Int,(if y>x then y else x)=max x y:=by
  intro x y;rw[Int.max_def];split<;>split<;>omega
 simp[Builtin.max_,Builtin.max2,e]
def Y.piece:Y Pc.bG where
 size:=6
 pos:=by omega
 is fr w S cs p:=∃a b c,cs=[.int .i64 p.node,.int .i64 p.state,.int .i64 p.steps,a,b,c]/\ay Y.int fr w S a p.aQ/\ay Y.msg.slice fr w S b p.bD/\ay Y.int.slice fr w S c p.Z
 len h:=by obtain⟨a,b,c,rfl,_⟩:=h;rfl
 aE h Q:=by obtain⟨a,b,c,rfl,F,R,h3⟩:=h;exact⟨a,b,c,rfl,F.aE Q,R.aE Q,h3.aE Q⟩
 aF h k1:=by obtain⟨a,b,c,rfl,F,R,h3⟩:=h;exact⟨a,b,c,rfl,F.aF k1,R.aF k1,h3.aF k1⟩
 soft h:=by obtain⟨a,b,c,rfl,F,R,h3⟩:=h;exact⟨a,b,c,rfl,F.soft,R.soft,h3.soft⟩
 one h:=by
  obtain⟨a,b,c,rfl,⟨_,_,rfl,_⟩,⟨_,_,rfl,_⟩,⟨_,_,rfl,_⟩⟩:=h;intro u hu;simp at hu;rcases hu with rfl |rfl |rfl |rfl |rfl |rfl<;>rfl
def iq(fr:Bool)(w:World)(lo hi:Nat)(v:Value)(p:Pc.bG):Prop:=
 ∃a b c,v=.agg #[p.node,p.state,p.steps,a,b,c]/\aM Y.int fr w lo hi a p.aQ/\aM Y.msg.slice fr w lo hi b p.bD/\aM Y.int.slice fr w lo hi c p.Z
section
variable{fr:Bool}{w w':World}{lo hi Gh AU:Nat}{v:Value}{p:Pc.bG}
theorem iq.aE(h:iq fr w lo hi v p)(Q:∀b,lo<=b->b<hi->w'.1[b]?=w.1[b]?):iq fr w' lo hi v p:=by
 obtain⟨a,b,c,rfl,F,R,h3⟩:=h;exact⟨a,b,c,rfl,F.aE Q,R.aE Q,h3.aE Q⟩
theorem iq.below{B:Nat}(h:iq fr w lo hi v p)(I:Below B w w')(J:hi<=B):iq fr w' lo hi v p:=h.aE λb _ R=>I.block b (by omega)
theorem iq.aF(h:iq fr w lo hi v p)(k1:Gh<=lo)(k2:hi<=AU):iq fr w Gh AU v p:=by
 obtain⟨a,b,c,rfl,F,R,h3⟩:=h;exact⟨a,b,c,rfl,F.aF k1 k2,R.aF k1 k2,h3.aF k1 k2⟩
end
end Go.Proofs.YtmgahjkopiaglaaGreat
namespace Go.Proofs.YtmgahjkopiaglaaGreat
open Go.RowKit Go.Proofs.Tryz
namespace Pc
theorem pX{α:Type}{xs ys:List α}{j:Nat}{x:α}(h:xs.take j=ys.take j)(D:xs[j]?=some x)(hy:ys[j]?=some x):xs.take (j+1)=ys.take (j+1):=by
 rw[zZ,zZ,h,D,hy]
theorem tP{α:Type}[DecidableEq α]{xs ys:List α}{j:Nat}{x y:α}(D:xs[j]?=some x)(hy:ys[j]?=some y)(h:x≠y):decide (xs=ys)=false:=by
 apply bZ;rintro rfl;rw[D] at hy;injection hy with hy;exact h hy
theorem sq{α:Type}[DecidableEq α]{xs ys:List α}{j:Nat}(hn:xs.length=ys.length)(hj:¬j<xs.length)(h:xs.take j=ys.take j):decide (xs=ys)=true:=by
 apply cV;rwa[jL (by omega),jL (by omega)] at h
theorem sr{α:Type}[DecidableEq α]{xs ys:List α}(hn:xs.length≠ys.length):decide (xs=ys)=false:=by
 apply bZ;rintro rfl;exact hn rfl
end Pc
def Quiet(w w':World):Prop:=∃n,w'=w.drewN n
theorem Quiet.refl(w:World):Quiet w w:=⟨0,rfl⟩
theorem Quiet.drewN{w w':World}(h:Quiet w w')(n:Nat):Quiet w (w'.drewN n):=by
 obtain⟨m,rfl⟩:=h;exact⟨m+n,by rw[World.drewN_drewN]⟩
theorem Quiet.trans{a b c:World}(h:Quiet a b)(h':Quiet b c):Quiet a c:=by
 obtain⟨n,rfl⟩:=h';exact h.drewN n
theorem Quiet.below{B:Nat}{w w':World}(h:Quiet w w'):Below B w w':=by
 obtain⟨n,rfl⟩:=h;exact below_drewN (bI _ _) n
theorem Quiet.heap{w w':World}(h:Quiet w w'):w'.heap=w.heap:=by
 obtain⟨n,rfl⟩:=h;rfl
theorem Quiet.size{w w':World}(h:Quiet w w'):w'.1.size=w.1.size:=by rw[h.heap]
theorem Quiet.at_{α:Type}{r:Y α}{fr:Bool}{lo hi:Nat}{w w':World}{A:Option Addr}{xs:List α}(h:Quiet w w')(hs:dM r fr w lo hi A xs):dM r fr w' lo hi A xs:=hs.aE λ_ _ _=>by rw[h.heap]
end Go.Proofs.YtmgahjkopiaglaaGreat
namespace Go.Proofs.YtmgahjkopiaglaaGreat
open Go.RowKit Go.Proofs.Tryz
theorem EZ(v u:Value)(xs ys:List Int)(w:World)(h:aM Y.int false w 0 w.1.size v xs)(h':aM Y.int false w 0 w.1.size u ys)(fz:xs.length≠ys.length):
 Calls prog 185 #[v,u] w λx w'=>x=.returned (.bool false)/\Quiet w w':=by
 obtain⟨A,c,rfl,l1,m1,_⟩:=h;obtain⟨A',c',rfl,l2,m2,_⟩:=h';have e:(((xs.length:Nat):Int) !=((ys.length:Nat):Int))=true:=by rw[bne_iff_ne];omega
 clear fz;unfold maxLen at m1 m2;go_in;go_wp2;go_ret;exact⟨rfl,Quiet.refl _⟩
theorem GH(v u:Value)(xs ys:List Int)(w:World)(h:aM Y.int false w 0 w.1.size v xs)(h':aM Y.int false w 0 w.1.size u ys)(fz:xs.length=ys.length):
 Calls prog 185 #[v,u] w λx w'=>x=.returned (.bool (decide (xs=ys)))/\Quiet w w':=by
 obtain⟨A,c,rfl,l1,m1,F⟩:=h;obtain⟨A',c',rfl,l2,m2,R⟩:=h';rw[<-fz] at l2⊢;change aK _ at fz;generalize hd:decide (xs=ys)=d;change aK _ at hd;unfold maxLen at m1 m2;go_in;go_wp2;go_loopg [5,13] xs.length (λk _ i wr=>∃j:Nat,i=.int .i64 (j:Int)/\j<=xs.length/\k=xs.length-j/\xs.take j=ys.take j/\Quiet w wr)
 case atStart=>exact⟨0,rfl,by omega,by omega,rfl,Quiet.refl _⟩
 case round=>
  obtain⟨j,rfl,hj,Q,hl,I⟩:=hrel;change aK _ at hl Q;by_cases bY:j<xs.length
  ·obtain⟨x,D⟩:=Pc.get_at bY;obtain⟨y,hy⟩:=Pc.get_at (l:=ys) (j:=j) (by have:=fz.Z;omega);obtain⟨g,o,rfl,_,_,c0⟩:=(I.at_ F).int D;obtain⟨g',o',rfl,_,_,c0'⟩:=(I.at_ R).int hy;replace D:=U D;replace hy:=U hy;clear F R;by_cases yQ:x=y
   ·subst yQ;have Rr:(x !=x)=false:=by simp
    go_wp2_with fail;go_quiet (fail);go_wp2;go_roundg (xs.length-(j+1))
    case rel=>exact⟨j+1,by simp,by omega,rfl,Pc.pX hl.Z D.Z hy.Z,I.drewN _⟩
    case measure=>have:=Q.Z;omega
   ·have GI:=U yQ;have Rr:(x !=y)=true:=by simpa using yQ
    clear yQ;go_wp2_with fail;go_quiet (fail);go_wp2;go_ret;exact⟨by rw[<-hd.Z,Pc.tP D.Z hy.Z GI.Z];rfl,I.drewN _⟩
  ·go_wp2;go_ret;exact⟨by rw[<-hd.Z,Pc.sq fz.Z bY hl.Z];rfl,I⟩
theorem uN(v u:Value)(xs ys:List Int)(w:World)(h:aM Y.int false w 0 w.1.size v xs)(h':aM Y.int false w 0 w.1.size u ys):
 Calls prog 185 #[v,u] w λx w'=>x=.returned (.bool (decide (xs=ys)))/\Quiet w w':=by
 by_cases fz:xs.length=ys.length
 ·exact GH v u xs ys w h h' fz
 ·rw[Pc.sr fz];exact EZ v u xs ys w h h' fz
theorem E3(v u:Value)(xs ys:List (Int×Int))(w:World)(h:aM Y.msg false w 0 w.1.size v xs)(h':aM Y.msg false w 0 w.1.size u ys)(fz:xs.length≠ys.length):
 Calls prog 220 #[v,u] w λx w'=>x=.returned (.bool false)/\Quiet w w':=by
 obtain⟨A,c,rfl,l1,m1,_⟩:=h;obtain⟨A',c',rfl,l2,m2,_⟩:=h';have e:(((xs.length:Nat):Int) !=((ys.length:Nat):Int))=true:=by rw[bne_iff_ne];omega
 clear fz;unfold maxLen at m1 m2;go_in;go_wp2;go_ret;exact⟨rfl,Quiet.refl _⟩
theorem GJ(v u:Value)(xs ys:List (Int×Int))(w:World)(h:aM Y.msg false w 0 w.1.size v xs)(h':aM Y.msg false w 0 w.1.size u ys)(fz:xs.length=ys.length):
 Calls prog 220 #[v,u] w λx w'=>x=.returned (.bool (decide (xs=ys)))/\Quiet w w':=by
 obtain⟨A,c,rfl,l1,m1,F⟩:=h;obtain⟨A',c',rfl,l2,m2,R⟩:=h';rw[<-fz] at l2⊢;change aK _ at fz;generalize hd:decide (xs=ys)=d;change aK _ at hd;unfold maxLen at m1 m2;go_in;go_wp2;go_loopg [5,13] xs.length (λk _ i wr=>∃j:Nat,i=.int .i64 (j:Int)/\j<=xs.length/\k=xs.length-j/\xs.take j=ys.take j/\Quiet w wr)
 case atStart=>exact⟨0,rfl,by omega,by omega,rfl,Quiet.refl _⟩
 case round=>
  obtain⟨j,rfl,hj,Q,hl,I⟩:=hrel;change aK _ at hl Q;by_cases bY:j<xs.length
  ·obtain⟨x,D⟩:=Pc.get_at bY;obtain⟨y,hy⟩:=Pc.get_at (l:=ys) (j:=j) (by have:=fz.Z;omega);obtain⟨x,x'⟩:=x;obtain⟨y,y'⟩:=y;obtain⟨g,o,rfl,_,_,c0,c1⟩:=(I.at_ F).msg D;obtain⟨g',o',rfl,_,_,c0',c1'⟩:=(I.at_ R).msg hy;dsimp only at c0 c1 c0' c1';replace D:=U D;replace hy:=U hy;clear F R;by_cases yQ:x=y
   ·subst yQ;by_cases RX:x'=y'
    ·subst RX;have Rr:(x==x)=true:=by simp
     have Yb:(x'==x')=true:=by simp
     go_wp2_with fail;go_quiet (fail);go_wp2;go_roundg (xs.length-(j+1))
     case rel=>exact⟨j+1,by simp,by omega,rfl,Pc.pX hl.Z D.Z hy.Z,I.drewN _⟩
     case measure=>have:=Q.Z;omega
    ·have GI:=U RX;have Rr:(x==x)=true:=by simp
     have Yb:(x'==y')=false:=by simpa using RX
     clear RX;go_wp2_with fail;go_quiet (fail);go_wp2;go_ret;exact⟨by rw[<-hd.Z,Pc.tP D.Z hy.Z (λe=>GI.Z (by injection e))];rfl,I.drewN _⟩
   ·have GI:=U yQ;have Rr:(x==y)=false:=by simpa using yQ
    clear yQ;go_wp2_with fail;go_quiet (fail);go_wp2;go_ret;exact⟨by rw[<-hd.Z,Pc.tP D.Z hy.Z (λe=>GI.Z (by injection e))];rfl,I.drewN _⟩
  ·go_wp2;go_ret;exact⟨by rw[<-hd.Z,Pc.sq fz.Z bY hl.Z];rfl,I⟩
theorem JD(v u:Value)(xs ys:List (Int×Int))(w:World)(h:aM Y.msg false w 0 w.1.size v xs)(h':aM Y.msg false w 0 w.1.size u ys):
 Calls prog 220 #[v,u] w λx w'=>x=.returned (.bool (decide (xs=ys)))/\Quiet w w':=by
 by_cases fz:xs.length=ys.length
 ·exact GJ v u xs ys w h h' fz
 ·rw[Pc.sr fz];exact E3 v u xs ys w h h' fz
theorem CY(v u:Value)(xs ys:List (List (Int×Int)))(w:World)(h:aM Y.msg.slice false w 0 w.1.size v xs)(h':aM Y.msg.slice false w 0 w.1.size u ys)(fz:xs.length≠ys.length):
 Calls prog 219 #[v,u,.func (.func 220) #[] #[]] w λx w'=>x=.returned (.bool false)/\Quiet w w':=by
 obtain⟨A,c,rfl,l1,m1,_⟩:=h;obtain⟨A',c',rfl,l2,m2,_⟩:=h';have e:(((xs.length:Nat):Int) !=((ys.length:Nat):Int))=true:=by rw[bne_iff_ne];omega
 clear fz;unfold maxLen at m1 m2;go_in;go_wp2;go_ret;exact⟨rfl,Quiet.refl _⟩
theorem E4(v u:Value)(xs ys:List (List (Int×Int)))(w:World)(h:aM Y.msg.slice false w 0 w.1.size v xs)(h':aM Y.msg.slice false w 0 w.1.size u ys)(fz:xs.length=ys.length):
 Calls prog 219 #[v,u,.func (.func 220) #[] #[]] w λx w'=>x=.returned (.bool (decide (xs=ys)))/\Quiet w w':=by
 obtain⟨A,c,rfl,l1,m1,F⟩:=h;obtain⟨A',c',rfl,l2,m2,R⟩:=h';rw[<-fz] at l2⊢;change aK _ at fz;generalize hd:decide (xs=ys)=d;change aK _ at hd;unfold maxLen at m1 m2;go_in;go_wp2;go_loopg [7,8,9,17] xs.length (λk _ _ _ i wr=>∃j:Nat,i=.int .i64 (j:Int)/\j<=xs.length/\k=xs.length-j/\xs.take j=ys.take j/\Quiet w wr)
 case atStart=>exact⟨0,rfl,by omega,by omega,rfl,Quiet.refl _⟩
 case round=>
  obtain⟨j,rfl,hj,Q,hl,I⟩:=hrel;change aK _ at hl Q;by_cases bY:j<xs.length
  ·obtain⟨x,D⟩:=Pc.get_at bY;obtain⟨y,hy⟩:=Pc.get_at (l:=ys) (j:=j) (by have:=fz.Z;omega);obtain⟨g,o,vx,rfl,_,_,c0,hvx⟩:=(I.at_ F).row D;obtain⟨g',o',vy,rfl,_,_,c0',hvy⟩:=(I.at_ R).row hy;replace D:=U D;replace hy:=U hy;clear F R;have fM:=I.size;go_wp2_with fail;refine(JD vx vy x y _ (hvx.aF (ev _) (by omega)) (hvy.aF (ev _) (by omega))).mono ?_;rintro e w1 ⟨rfl,ee⟩;replace I:=I.trans ee;clear ee fM;cases yQ:decide (x=y)
   ·have GI:=U (m6 yQ);clear yQ;go_wp2;go_ret;exact⟨by rw[<-hd.Z,Pc.tP D.Z hy.Z GI.Z];rfl,I⟩
   ·have GI:=U (eM yQ);clear yQ;go_wp2;go_roundg (xs.length-(j+1))
    case rel=>exact⟨j+1,by simp,by omega,rfl,Pc.pX hl.Z D.Z (by rw[GI.Z];exact hy.Z),I⟩
    case measure=>have:=Q.Z;omega
  ·go_wp2;go_ret;exact⟨by rw[<-hd.Z,Pc.sq fz.Z bY hl.Z];rfl,I⟩
theorem GK(v u:Value)(xs ys:List (List (Int×Int)))(w:World)(h:aM Y.msg.slice false w 0 w.1.size v xs)(h':aM Y.msg.slice false w 0 w.1.size u ys):
 Calls prog 219 #[v,u,.func (.func 220) #[] #[]] w λx w'=>x=.returned (.bool (decide (xs=ys)))/\Quiet w w':=by
 by_cases fz:xs.length=ys.length
 ·exact E4 v u xs ys w h h' fz
 ·rw[Pc.sr fz];exact CY v u xs ys w h h' fz
theorem CZ(v u:Value)(xs ys:List (List Int))(w:World)(h:aM Y.int.slice false w 0 w.1.size v xs)(h':aM Y.int.slice false w 0 w.1.size u ys)(fz:xs.length≠ys.length):
 Calls prog 221 #[v,u,.func (.func 185) #[] #[]] w λx w'=>x=.returned (.bool false)/\Quiet w w':=by
 obtain⟨A,c,rfl,l1,m1,_⟩:=h;obtain⟨A',c',rfl,l2,m2,_⟩:=h';have e:(((xs.length:Nat):Int) !=((ys.length:Nat):Int))=true:=by rw[bne_iff_ne];omega
 clear fz;unfold maxLen at m1 m2;go_in;go_wp2;go_ret;exact⟨rfl,Quiet.refl _⟩
theorem E5(v u:Value)(xs ys:List (List Int))(w:World)(h:aM Y.int.slice false w 0 w.1.size v xs)(h':aM Y.int.slice false w 0 w.1.size u ys)(fz:xs.length=ys.length):
 Calls prog 221 #[v,u,.func (.func 185) #[] #[]] w λx w'=>x=.returned (.bool (decide (xs=ys)))/\Quiet w w':=by
 obtain⟨A,c,rfl,l1,m1,F⟩:=h;obtain⟨A',c',rfl,l2,m2,R⟩:=h';rw[<-fz] at l2⊢;change aK _ at fz;generalize hd:decide (xs=ys)=d;change aK _ at hd;unfold maxLen at m1 m2;go_in;go_wp2;go_loopg [7,8,9,17] xs.length (λk _ _ _ i wr=>∃j:Nat,i=.int .i64 (j:Int)/\j<=xs.length/\k=xs.length-j/\xs.take j=ys.take j/\Quiet w wr)
 case atStart=>exact⟨0,rfl,by omega,by omega,rfl,Quiet.refl _⟩
 case round=>
  obtain⟨j,rfl,hj,Q,hl,I⟩:=hrel;change aK _ at hl Q;by_cases bY:j<xs.length
  ·obtain⟨x,D⟩:=Pc.get_at bY;obtain⟨y,hy⟩:=Pc.get_at (l:=ys) (j:=j) (by have:=fz.Z;omega);obtain⟨g,o,vx,rfl,_,_,c0,hvx⟩:=(I.at_ F).row D;obtain⟨g',o',vy,rfl,_,_,c0',hvy⟩:=(I.at_ R).row hy;replace D:=U D;replace hy:=U hy;clear F R;have fM:=I.size;go_wp2_with fail;refine(uN vx vy x y _ (hvx.aF (ev _) (by omega)) (hvy.aF (ev _) (by omega))).mono ?_;rintro e w1 ⟨rfl,ee⟩;replace I:=I.trans ee;clear ee fM;cases yQ:decide (x=y)
   ·have GI:=U (m6 yQ);clear yQ;go_wp2;go_ret;exact⟨by rw[<-hd.Z,Pc.tP D.Z hy.Z GI.Z];rfl,I⟩
   ·have GI:=U (eM yQ);clear yQ;go_wp2;go_roundg (xs.length-(j+1))
    case rel=>exact⟨j+1,by simp,by omega,rfl,Pc.pX hl.Z D.Z (by rw[GI.Z];exact hy.Z),I⟩
    case measure=>have:=Q.Z;omega
  ·go_wp2;go_ret;exact⟨by rw[<-hd.Z,Pc.sq fz.Z bY hl.Z];rfl,I⟩
theorem GL(v u:Value)(xs ys:List (List Int))(w:World)(h:aM Y.int.slice false w 0 w.1.size v xs)(h':aM Y.int.slice false w 0 w.1.size u ys):
 Calls prog 221 #[v,u,.func (.func 185) #[] #[]] w λx w'=>x=.returned (.bool (decide (xs=ys)))/\Quiet w w':=by
 by_cases fz:xs.length=ys.length
 ·exact E5 v u xs ys w h h' fz
 ·rw[Pc.sr fz];exact CZ v u xs ys w h h' fz
end Go.Proofs.YtmgahjkopiaglaaGreat
