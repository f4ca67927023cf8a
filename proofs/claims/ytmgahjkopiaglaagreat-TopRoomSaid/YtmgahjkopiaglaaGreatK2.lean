/- Lemmas, walks and contracts by which the statement is proved. -/
import Derived.Test.YtmgahjkopiaglaaGreatK1
import Derived.Laws.Sem
import Derived.OrdersHeld
import Derived.Deep.RegionWith
set_option maxRecDepth 100000
set_option maxHeartbeats 16000000
set_option linter.all false
namespace Go.Proofs.YtmgahjkopiaglaaGreat
open Go.RowKit Go.Proofs.Tryz
structure Ext(w w':World):Prop where
 size:w.1.size<=w'.1.size
 block:∀b,b<w.1.size->w'.1[b]?=w.1[b]?
theorem Ext.refl(w:World):Ext w w:=⟨bE,λ_ _=>rfl⟩
theorem Ext.trans{a b c:World}(h:Ext a b)(h':Ext b c):Ext a c:=⟨bT h.size h'.size,λk Q=>(h'.block k (aU Q h.size)).trans (h.block k Q)⟩
theorem Ext.some{w w':World}(h:Ext w w'){b:Nat}{o:Obj}(I:w.1[b]?=some o):w'.1[b]?=some o:=by
 rw[h.block b (xv.1 I).1,I]
def aR(P:Program){α:Type}(s:Sem α):Prop:=∀w v w1,s.run P w=.ok v w1->∀w',Ext w w'->s.run P w'=.ok v w'
def fN(P:Program){α:Type}(s:Sem α):Prop:=∀w v w1,s.run P w=.ok v w1->Ext w w1
def dD(P:Program){α:Type}(s:Sem α):Prop:=∀w v w1,s.run P w≠.ok v w1
section
variable{P:Program}{α β:Type}
theorem aR.pure(v:α):aR P (Pure.pure v:Sem α):=by
 intro w v' w1 h w' _;rw[tI] at h⊢;injection h with F _
 rw[F]
theorem aR.bind{s:Sem α}{f:α->Sem β}(h:aR P s)(hf:∀v,aR P (f v)):aR P (s>>=f):=by
 intro w v w1 hr w' he;rw[iI] at hr⊢;cases hs:s.run P w with
 |ok a w2=>
  rw[hs] at hr;have e:=h w a w2 hs w (Ext.refl w);rw[hs] at e;injection e with _ e
  subst e;rw[h w2 a w2 hs w' he];exact hf a w2 v w1 hr w' he
 |halt x w2=>rw[hs] at hr;cases hr
theorem dD.fC{s:Sem α}(h:dD P s):aR P s:=λw v w1 hr=>absurd hr (h w v w1)
theorem dD.halt(x:Halt):dD P (Sem.halt x:Sem α):=by intro w v w1 h;simp[Sem.run] at h
theorem dD.Dy{s:Sem α}{f:α->Sem β}(h:∀v,dD P (f v)):dD P (s>>=f):=by
 intro w v w1 hr;rw[iI] at hr;cases hs:s.run P w with
 |ok a w2=>rw[hs] at hr;exact h _ _ _ _ hr
 |halt x w2=>rw[hs] at hr;cases hr
theorem dD.stuck(t:String):dD P (Go.stuck t:Sem α):=dD.halt _
theorem dD.unsupported(u:Unsupported):dD P (Go.unsupported u:Sem α):=dD.halt _
theorem dD.goPanic(v:Value):dD P (Go.goPanic v:Sem α):=dD.halt _
theorem dD.runtimePanic(e:RuntimeError):dD P (Go.runtimePanic e:Sem α):=by
 unfold Go.runtimePanic;refine dD.Dy λp=>?_;cases e<;>dsimp only
 case typeAssertion=>exact dD.Dy λ_=>dD.Dy λ_=>dD.goPanic _
 case panicNil=>exact dD.Dy λ_=>dD.Dy λ_=>dD.goPanic _
 all_goals exact dD.goPanic _
theorem dD.boundsPanic(k:IntKind)(x y:Int)(c:BoundsCode):dD P (Go.boundsPanic k x y c:Sem α):=by
 unfold Go.boundsPanic;dsimp only;split<;>exact dD.Dy λ_=>dD.runtimePanic _
theorem aR.program:aR P Go.program:=by
 intro w v w1 h w' _;simp only[Go.program,Sem.run] at h⊢;injection h with F _
 rw[F]
theorem O7{w w':World}(he:Ext w w'){at_ k:Addr}{u:TypeId}{b:Bool}{r:Array Value×TypeId×(Nat×Nat)×Nat×Value×List (Nat×Nat×List UInt8)}(h:w.seen P at_ u k b=.ok r):w'.seen P at_ u k b=.ok r:=by
 unfold World.seen at h⊢;cases I:w.1[at_.block]? with
 |none=>
  exfalso;revert h;rw[I];simp only[bind,Except.bind];repeat' split
  all_goals simp
 |some o=>
  rw[he.some I];rw[I] at h;exact h
theorem GM{w w':World}(he:Ext w w'){a:Addr}{b:Bool}{r:Value×List Addr}(h:w.farLoad P a b=.ok r):w'.farLoad P a b=.ok r:=by
 unfold World.farLoad at h⊢;cases I:w.1[a.block]? with
 |none=>rw[I] at h;cases h
 |some o=>
  rw[he.some I];rw[I] at h;cases o<;>dsimp only at h⊢<;>try (cases h;done)
  case view at_ u=>
   cases hv:w.viewLoad P at_ u a b with
   |error e=>rw[hv] at h;cases h
   |ok x=>
    rw[hv] at h;have e2:w'.viewLoad P at_ u a b=.ok x:=by
     unfold World.viewLoad at hv⊢;cases hs:w.seen P at_ u a b with
     |error e=>rw[hs] at hv;cases hv
     |ok y=>rw[O7 he hs];rw[hs] at hv;exact hv
    rw[e2];exact h
theorem aR.load(a:Addr):aR P (Go.load a):=by
 intro w v w1 h w' he;unfold Go.load at h⊢;simp only[Sem.run] at h⊢;cases hc:w.cell? a with
 |some x=>
  rw[hc] at h;have:w'.cell? a=some x:=by
   unfold World.cell? at hc⊢;cases I:w.1[a.block]? with
   |none=>rw[I] at hc;cases hc
   |some o=>rw[he.some I];rw[I] at hc;exact hc
  rw[this];dsimp only at h⊢;injection h with F _
  rw[F]
 |none=>
  rw[hc] at h;dsimp only at h;cases hf:w.farLoad P a (Mode.plain==Mode.atomic) with
  |error e=>rw[hf] at h;cases h
  |ok y=>
   rw[hf] at h;have hc':w'.cell? a=none:=by
    unfold World.cell? at hc⊢;unfold World.farLoad at hf;cases I:w.1[a.block]? with
    |none=>rw[I] at hf;cases hf
    |some o=>rw[he.some I];rw[I] at hc;exact hc
   rw[hc',GM he hf];dsimp only at h⊢;injection h with F _
   rw[F]
theorem aR.getObj(r:Nat):aR P (Go.getObj r):=by
 intro w v w1 h w' he;unfold Go.getObj at h⊢;simp only[Sem.run] at h⊢;cases I:w.1[r]? with
 |none=>rw[I] at h;cases h
 |some o=>
  rw[he.some I];rw[I] at h;cases o<;>dsimp only at h⊢<;>first |(cases h;done)|(injection h with F _;rw[F])
theorem aR.shape{r:Nat}{f:Option (TypeId×Nat)->Sem β}(hn:∀w v w1,w.1[r]?=none->(f none).run P w≠.ok v w1)(hf:∀x,aR P (f x)):aR P (Go.shape r>>=f):=by
 intro w v w1 h w' he;rw[iI] at h⊢;simp only[Go.shape,Sem.run,qK] at h⊢;cases I:w.1[r]? with
 |none=>
  have:w.shape? r=none:=by unfold World.shape?;rw[I]
  rw[this] at h;exact absurd h (hn _ _ _ I)
 |some o=>
  have:w'.shape? r=w.shape? r:=by unfold World.shape?;rw[I,he.some I]
  rw[this];exact hf _ w v w1 h w' he
theorem GN{r:Nat}{f:Obj->Sem β}{w:World}(I:w.1[r]?=none)(v:β)(w1:World):(Go.getObj r>>=f).run P w≠.ok v w1:=by
 rw[iI];simp only[Go.getObj,Sem.run,I];simp
theorem aR.viewAt(r:Nat):aR P (Go.viewAt r):=by
 unfold Go.viewAt;refine aR.shape (λw v w1 I=>?_) λx=>?_
 ·simp only[Option.isSome_none,tC,if_false];exact GN I _ _
 ·split
  ·exact aR.pure _
  ·refine aR.bind (aR.getObj _) λo=>?_;cases o<;>exact aR.pure _
theorem aR.typeInfo(t:TypeId):aR P (Go.typeInfo t):=by
 unfold Go.typeInfo;refine aR.bind aR.program λp=>?_;split
 ·exact aR.pure _
 ·exact(dD.stuck _).fC
theorem aR.underlying(t:TypeId):aR P (Go.underlying t):=by
 unfold Go.underlying;refine aR.bind aR.program λp=>?_;split
 ·exact aR.pure _
 ·exact(dD.stuck _).fC
theorem aR.sizeOf(t:TypeId):aR P (Go.sizeOf t):=aR.bind (aR.typeInfo t) λ_=>aR.pure _
theorem aR.zeroValue(t:TypeId):aR P (Go.zeroValue t):=by
 unfold Go.zeroValue;refine aR.bind (aR.typeInfo t) λi=>?_;split
 ·exact aR.pure _
 ·exact(dD.unsupported _).fC
theorem aR.isAgg(t:TypeId):aR P (Go.isAgg t):=by
 unfold Go.isAgg;refine aR.bind (aR.underlying t) λd=>?_;split<;>exact aR.pure _
theorem aR.loadCellsFrom(a:Addr):∀(n i:Nat)(acc:Array Value),aR P (Go.loadCellsFrom a i n acc):=by
 intro n;induction n with
 |zero=>intro i acc;exact aR.pure _
 |succ n ih=>intro i acc;exact aR.bind (aR.load _) λv=>ih _ _
theorem aR.loadVar(t:TypeId)(a:Addr):aR P (Go.loadVar t a):=by
 unfold Go.loadVar;refine aR.bind (aR.isAgg t) λb=>?_;split
 ·exact aR.bind (aR.sizeOf t) λn=>aR.bind (aR.loadCellsFrom a n 0 #[]) λ_=>aR.pure _
 ·exact aR.load a
theorem aR.sureAddr(v:Value):aR P (Instr.sureAddr v):=by
 unfold Instr.sureAddr;split
 ·exact aR.pure _
 ·exact(dD.stuck _).fC
theorem aR.asIntOf(v:Value):aR P (Go.asIntOf v):=by
 unfold Go.asIntOf;split
 ·exact aR.pure _
 ·exact(dD.unsupported _).fC
 ·exact(dD.stuck _).fC
theorem aR.asBool(v:Value):aR P (Go.asBool v):=by
 unfold Go.asBool;split
 ·exact aR.pure _
 ·exact(dD.stuck _).fC
theorem aR.loadAt(t:TypeId)(v:Value):aR P (Instr.loadAt t v):=aR.bind (aR.sureAddr v) λa=>aR.loadVar t a
theorem jq{aw:Prop}(h:aw:=by repeat' first |exact aR.pure _|exact(dD.stuck _).fC|exact(dD.unsupported _).fC|exact(dD.boundsPanic _ _ _ _).fC|exact(dD.runtimePanic _).fC|exact(dD.goPanic _).fC|exact aR.underlying _|exact aR.sizeOf _|exact aR.typeInfo _|exact aR.zeroValue _|exact aR.isAgg _|exact aR.sureAddr _|exact aR.asIntOf _|exact aR.asBool _|exact aR.loadVar _ _|exact aR.load _|exact aR.getObj _|exact aR.viewAt _|exact aR.program|(refine aR.bind ?_ λ_=>?_)|split):aw:=h
theorem aR.indexAt(t:TypeId)(x ix:Value):aR P (Instr.indexAt t x ix):=by
 unfold Instr.indexAt;try dsimp only
 exact jq
theorem aR.sliceBound(x:Value)(y:Nat)(c:BoundsCode):aR P (Instr.sliceBound x y c):=by
 unfold Instr.sliceBound;try dsimp only
 exact jq
theorem aR.sliceBounds(b:Bool)(n c:Nat)(lo hi mx:Option Value):aR P (Instr.sliceBounds b n c lo hi mx):=by
 unfold Instr.sliceBounds;try dsimp only
 repeat' first |exact aR.sliceBound _ _ _|exact aR.pure _|exact(dD.stuck _).fC|exact(dD.unsupported _).fC|exact(dD.boundsPanic _ _ _ _).fC|exact(dD.runtimePanic _).fC|exact(dD.goPanic _).fC|exact aR.underlying _|exact aR.sizeOf _|exact aR.typeInfo _|exact aR.zeroValue _|exact aR.isAgg _|exact aR.sureAddr _|exact aR.asIntOf _|exact aR.asBool _|exact aR.loadVar _ _|exact aR.load _|exact aR.getObj _|exact aR.viewAt _|exact aR.program|(refine aR.bind ?_ λ_=>?_)|split
theorem aR.part(t:TypeId)(cs:Array Value)(off:Nat):aR P (Go.part t cs off):=by
 unfold Go.part;try dsimp only
 exact jq
theorem aR.asAgg(v:Value):aR P (Go.asAgg v):=by
 unfold Go.asAgg;try dsimp only
 exact jq
theorem aR.asAddr(v:Value):aR P (Go.asAddr v):=by
 unfold Go.asAddr;try dsimp only
 exact jq
theorem aR.slice(t:TypeId)(x:Value)(lo hi mx:Option Value):aR P (Instr.slice t x lo hi mx):=by
 unfold Instr.slice;try dsimp only
 repeat' first |exact aR.sliceBounds _ _ _ _ _ _|exact aR.asAddr _|exact aR.pure _|exact(dD.stuck _).fC|exact(dD.unsupported _).fC|exact(dD.boundsPanic _ _ _ _).fC|exact(dD.runtimePanic _).fC|exact(dD.goPanic _).fC|exact aR.underlying _|exact aR.sizeOf _|exact aR.typeInfo _|exact aR.zeroValue _|exact aR.isAgg _|exact aR.sureAddr _|exact aR.asIntOf _|exact aR.asBool _|exact aR.loadVar _ _|exact aR.load _|exact aR.getObj _|exact aR.viewAt _|exact aR.program|(refine aR.bind ?_ λ_=>?_)|split
theorem aR.field(t:TypeId)(x:Value)(f:Nat):aR P (Instr.field t x f):=by
 unfold Instr.field;try dsimp only
 repeat' first |exact aR.part _ _ _|exact aR.asAgg _|exact aR.pure _|exact(dD.stuck _).fC|exact(dD.unsupported _).fC|exact(dD.boundsPanic _ _ _ _).fC|exact(dD.runtimePanic _).fC|exact(dD.goPanic _).fC|exact aR.underlying _|exact aR.sizeOf _|exact aR.typeInfo _|exact aR.zeroValue _|exact aR.isAgg _|exact aR.sureAddr _|exact aR.asIntOf _|exact aR.asBool _|exact aR.loadVar _ _|exact aR.load _|exact aR.getObj _|exact aR.viewAt _|exact aR.program|(refine aR.bind ?_ λ_=>?_)|split
theorem aR.index(t:TypeId)(x i:Value):aR P (Instr.index t x i):=by
 unfold Instr.index;try dsimp only
 repeat' first |exact aR.part _ _ _|exact aR.asAgg _|exact aR.pure _|exact(dD.stuck _).fC|exact(dD.unsupported _).fC|exact(dD.boundsPanic _ _ _ _).fC|exact(dD.runtimePanic _).fC|exact(dD.goPanic _).fC|exact aR.underlying _|exact aR.sizeOf _|exact aR.typeInfo _|exact aR.zeroValue _|exact aR.isAgg _|exact aR.sureAddr _|exact aR.asIntOf _|exact aR.asBool _|exact aR.loadVar _ _|exact aR.load _|exact aR.getObj _|exact aR.viewAt _|exact aR.program|(refine aR.bind ?_ λ_=>?_)|split
theorem aR.extract(x:Value)(i:Nat):aR P (Instr.extract x i):=by
 unfold Instr.extract;try dsimp only
 exact jq
theorem aR.makeInterface(t:TypeId)(x:Value):aR P (Instr.makeInterface t x):=by
 unfold Instr.makeInterface;try dsimp only
 exact jq
theorem aR.intArith(op:BinOp)(k:IntKind)(x y:Int):aR P (Op.intArith op k x y):=by
 unfold Op.intArith;try dsimp only
 exact jq
theorem aR.intBits(op:BinOp)(k:IntKind)(x y:Int):aR P (Op.intBits op k x y):=by
 unfold Op.intBits;try dsimp only
 exact jq
theorem aR.unary(op:UnOp)(x:Value):aR P (Op.unary op x):=by
 unfold Op.unary;try dsimp only
 repeat' first |exact aR.intArith _ _ _ _|exact aR.intBits _ _ _ _|exact aR.pure _|exact(dD.stuck _).fC|exact(dD.unsupported _).fC|exact(dD.boundsPanic _ _ _ _).fC|exact(dD.runtimePanic _).fC|exact(dD.goPanic _).fC|exact aR.underlying _|exact aR.sizeOf _|exact aR.typeInfo _|exact aR.zeroValue _|exact aR.isAgg _|exact aR.sureAddr _|exact aR.asIntOf _|exact aR.asBool _|exact aR.loadVar _ _|exact aR.load _|exact aR.getObj _|exact aR.viewAt _|exact aR.program|(refine aR.bind ?_ λ_=>?_)|split
theorem aR.len(ts:Array TypeId)(t:TypeId)(xs:Array Value):aR P (Builtin.len_ ts t xs):=by
 unfold Builtin.len_;try dsimp only
 exact jq
theorem aR.cap(ts:Array TypeId)(t:TypeId)(xs:Array Value):aR P (Builtin.cap_ ts t xs):=by
 unfold Builtin.cap_;try dsimp only
 exact jq
theorem aR.noView(a:Addr):aR P (Go.noView a):=by
 unfold Go.noView;try dsimp only
 exact jq
theorem aR.sliceAt(t:TypeId)(x:Value)(lo hi mx:Option Value):aR P (Instr.sliceAt t x lo hi mx):=by
 unfold Instr.sliceAt;try dsimp only
 repeat' first |exact aR.sliceBounds _ _ _ _ _ _|exact aR.slice _ _ _ _ _|exact aR.pure _|exact(dD.stuck _).fC|exact(dD.unsupported _).fC|exact(dD.boundsPanic _ _ _ _).fC|exact(dD.runtimePanic _).fC|exact(dD.goPanic _).fC|exact aR.underlying _|exact aR.sizeOf _|exact aR.typeInfo _|exact aR.zeroValue _|exact aR.isAgg _|exact aR.sureAddr _|exact aR.asIntOf _|exact aR.asBool _|exact aR.loadVar _ _|exact aR.load _|exact aR.getObj _|exact aR.viewAt _|exact aR.program|(refine aR.bind ?_ λ_=>?_)|split
theorem aR.byteOf(a:Addr):aR P (Go.byteOf a):=by
 unfold Go.byteOf;split
 ·exact aR.pure _
 ·dsimp only;refine aR.bind aR.program λp=>aR.bind (aR.noView _) λ_=>aR.shape (λw v w1 _=>dD.stuck _ w v w1) λx=>?_;cases x with
  |none=>exact(dD.stuck _).fC
  |some y=>
   dsimp only;repeat' first |exact aR.pure _|exact(dD.stuck _).fC|split
theorem aR.partAt(a:Addr)(c b:Nat):aR P (Go.partAt a c b):=by
 unfold Go.partAt;refine aR.bind (aR.byteOf _) λx=>?_;dsimp only;exact aR.bind (aR.byteOf _) λ_=>aR.pure _
theorem aR.fieldPlace(a:Addr)(f:Field):aR P (Go.fieldPlace a f):=by
 unfold Go.fieldPlace;refine aR.bind (aR.sizeOf _) λn=>?_;split
 ·exact aR.partAt _ _ _
 ·exact aR.pure _
theorem aR.O8{γ:Type}{f:γ->Sem α}(hf:∀x,aR P (f x)):∀l:List γ,aR P (l.mapM f):=by
 intro l;induction l with
 |nil=>rw[List.mapM_nil];exact aR.pure _
 |cons x t ih=>rw[List.mapM_cons];exact aR.bind (hf x) λ_=>aR.bind ih λ_=>aR.pure _
theorem aR.mapM{γ:Type}{f:γ->Sem α}(hf:∀x,aR P (f x))(l:Array γ):aR P (l.mapM f):=by
 rw[Array.mapM_eq_mapM_toList];intro w v w1 h w' he;rw[Sem.run_map] at h⊢;cases hs:(List.mapM f l.toList).run P w with
 |ok a w2=>
  rw[hs] at h;rw[aR.O8 hf l.toList w a w2 hs w' he];simp only[qK] at h⊢;injection h with F _
  rw[F]
 |halt x w2=>rw[hs] at h;cases h
theorem aR.fieldAt(t:TypeId)(x:Value)(f:Nat):aR P (Instr.fieldAt t x f):=by
 unfold Instr.fieldAt;try dsimp only
 repeat' first |exact aR.fieldPlace _ _|exact aR.pure _|exact(dD.stuck _).fC|exact(dD.unsupported _).fC|exact(dD.boundsPanic _ _ _ _).fC|exact(dD.runtimePanic _).fC|exact(dD.goPanic _).fC|exact aR.underlying _|exact aR.sizeOf _|exact aR.typeInfo _|exact aR.zeroValue _|exact aR.isAgg _|exact aR.sureAddr _|exact aR.asIntOf _|exact aR.asBool _|exact aR.loadVar _ _|exact aR.load _|exact aR.getObj _|exact aR.viewAt _|exact aR.program|(refine aR.bind ?_ λ_=>?_)|split
theorem aR.build(t:TypeId)(ps:Array (Nat×Value)):aR P (Instr.build t ps):=by
 unfold Instr.build;try dsimp only
 repeat' first |exact aR.mapM (λ_=>aR.bind (aR.sizeOf _) λ_=>aR.pure _) _|exact aR.pure _|exact(dD.stuck _).fC|exact(dD.unsupported _).fC|exact(dD.boundsPanic _ _ _ _).fC|exact(dD.runtimePanic _).fC|exact(dD.goPanic _).fC|exact aR.underlying _|exact aR.sizeOf _|exact aR.typeInfo _|exact aR.zeroValue _|exact aR.isAgg _|exact aR.sureAddr _|exact aR.asIntOf _|exact aR.asBool _|exact aR.loadVar _ _|exact aR.load _|exact aR.getObj _|exact aR.viewAt _|exact aR.program|(refine aR.bind ?_ λ_=>?_)|split
theorem aR.grow{s:Sem α}(h:aR P s):fN P s:=by
 intro w v w1 hr;have e:=h w v w1 hr w (Ext.refl w);rw[hr] at e;injection e with _ e
 subst e;exact Ext.refl _
theorem fN.bind{s:Sem α}{f:α->Sem β}(h:fN P s)(hf:∀v,fN P (f v)):fN P (s>>=f):=by
 intro w v w1 hr;rw[iI] at hr;cases hs:s.run P w with
 |ok a w2=>rw[hs] at hr;exact(h w a w2 hs).trans (hf a w2 v w1 hr)
 |halt x w2=>rw[hs] at hr;cases hr
theorem fN.newObj(o:Obj):fN P (Go.newObj o):=by
 intro w v w1 h;simp only[Go.newObj,Sem.run] at h;injection h with _ h
 subst h;exact⟨by simp,λb I=>by simp[Array.getElem?_push,Nat.ne_of_lt I]⟩
theorem fN.choose(q:Question):fN P (Go.choose q):=by
 intro w v w1 h;simp only[Go.choose,Sem.run] at h;split at h<;>(injection h with _ h;subst h;exact⟨bE,λ_ _=>rfl⟩)
theorem fN.newRow(t:TypeId)(cs:Array Value):fN P (Go.newRow t cs):=fN.bind (fN.newObj _) λ_=>(aR.pure _).grow
theorem fN.newVar(t:TypeId)(v:Value):fN P (Go.newVar t v):=fN.newRow _ _
theorem fN.box(t:TypeId)(v:Value):fN P (Instr.box t v):=fN.bind (fN.newVar _ _) λ_=>(aR.pure _).grow
theorem fN.alloc(t:TypeId):fN P (Instr.alloc t true (.tuple #[])):=by
 unfold Instr.alloc;exact fN.bind (aR.zeroValue t).grow λz=>fN.bind (fN.newVar _ _) λ_=>(aR.pure _).grow
theorem fN.buildSlice(t:TypeId)(n:Nat)(ps:Array (Nat×Value)):fN P (Instr.buildSlice t n ps):=by
 unfold Instr.buildSlice;dsimp only;repeat' first |exact(aR.pure _).grow|exact((dD.stuck _).fC).grow|exact((dD.unsupported _).fC).grow|exact(aR.underlying _).grow|exact(aR.sizeOf _).grow|exact(aR.zeroValue _).grow|exact fN.newRow _ _|(refine fN.bind ?_ λ_=>?_)|split
theorem fN.AW{γ:Type}{f:α->γ->Sem α}(hf:∀x y,fN P (f x y)):∀(l:List γ)(x:α),fN P (l.foldlM f x):=by
 intro l;induction l with
 |nil=>intro x;rw[List.foldlM_nil];exact(aR.pure _).grow
 |cons y t ih=>intro x;rw[List.foldlM_cons];exact fN.bind (hf x y) λ_=>ih _
theorem fN.min2(x y:Value):fN P (Builtin.min2 x y):=by
 unfold Builtin.min2;repeat' first |exact(aR.pure _).grow|exact((dD.stuck _).fC).grow|exact((dD.unsupported _).fC).grow|exact(aR.stringOp _ _ _).grow|exact(aR.asBool _).grow|exact fN.choose _|(refine fN.bind ?_ λ_=>?_)|split
theorem fN.max2(x y:Value):fN P (Builtin.max2 x y):=by
 unfold Builtin.max2;repeat' first |exact(aR.pure _).grow|exact((dD.stuck _).fC).grow|exact((dD.unsupported _).fC).grow|exact(aR.stringOp _ _ _).grow|exact(aR.asBool _).grow|exact fN.choose _|(refine fN.bind ?_ λ_=>?_)|split
theorem fN.min_(ts:Array TypeId)(t:TypeId)(xs:Array Value):fN P (Builtin.min_ ts t xs):=by
 unfold Builtin.min_;split
 ·exact((dD.stuck _).fC).grow
 ·exact fN.AW fN.min2 _ _
theorem fN.max_(ts:Array TypeId)(t:TypeId)(xs:Array Value):fN P (Builtin.max_ ts t xs):=by
 unfold Builtin.max_;split
 ·exact((dD.stuck _).fC).grow
 ·exact fN.AW fN.max2 _ _
end
end Go.Proofs.YtmgahjkopiaglaaGreat
namespace Go.Proofs.YtmgahjkopiaglaaGreat
section
variable{P:Program}{ops:Array Oper}{ao:Exit->Act->World->Prop}{md:Region.Mode}
def bW(md:Region.Mode)(o:Oper):Nat:=(o.after.toList.filter (Region.binds md)).foldr (λe s=>2^e.on|||s) 0
def ff(mask:Nat):List Nat->Nat->List Nat
 |[],_=>[]
 |em::t,j=>if !mask.testBit j&&(em&&& mask==em) then j::ff mask t (j+1) else ff mask t (j+1)
def dH(n mask:Nat):Array Bool:=((List.range n).map λi=>mask.testBit i).toArray
theorem O9(mask:Nat):∀(es:List Edge),((es.foldr (λe s=>2^e.on|||s) 0)&&& mask=es.foldr (λe s=>2^e.on|||s) 0)↔∀e∈es,mask.testBit e.on=true:=by
 intro es;constructor
 ·intro h e he;have I:(es.foldr (λ(e:Edge) s=>2^e.on|||s) 0).testBit e.on=true:=by
   clear h;induction es with
   |nil=>cases he
   |cons x t ih=>
    simp only[List.foldr_cons,pO,lY];rcases jQ.1 he with rfl |h
    ·exact .inl (by simp)
    ·exact .inr (ih h)
  rw[<-h,wg,cQ] at I;exact I.2
 ·intro h;apply Nat.eq_of_testBit_eq;intro k;rw[wg];cases Q:(es.foldr (λ(e:Edge) s=>2^e.on|||s) 0).testBit k
  ·simp
  ·have:∃e∈es,e.on=k:=by
    clear h;induction es with
    |nil=>simp at Q
    |cons x t ih=>
     simp only[List.foldr_cons,pO,lY,si,dC] at Q;rcases Q with Q|Q
     ·exact⟨x,by simp,Q⟩
     ·obtain⟨e,he,hek⟩:=ih Q;exact⟨e,by simp[he],hek⟩
   obtain⟨e,he,rfl⟩:=this;simp[h e he]
theorem My(md:Region.Mode)(mask:Nat):∀(l:List Oper)(j:Nat),ff mask (l.map (bW md)) j=
 (List.range' j l.length).filter (λi=> !mask.testBit i&&((l[i-j]?).map (·.after.all λe=> !Region.binds md e||mask.testBit e.on)).getD false):=by
 intro l;induction l with
 |nil=>intro j;simp[ff]
 |cons o t ih=>
  intro j;have hc:(bW md o&&& mask==bW md o)=o.after.all (λe=> !Region.binds md e||mask.testBit e.on):=by
   rw[Af,mz,bW,O9,AP];simp only[List.mem_filter,Array.mem_toList_iff,lY,nT];constructor
   ·intro h e he;cases I:Region.binds md e
    ·exact .inl rfl
    ·exact .inr (h e ⟨he,I⟩)
   ·intro h e he;exact(h e he.1).resolve_left (by simp[he.2])
  have Yc:(List.range' (j+1) t.length).filter (λi=> !mask.testBit i&&(((o::t)[i-j]?).map (·.after.all λe=> !Region.binds md e||mask.testBit e.on)).getD false)=
   (List.range' (j+1) t.length).filter (λi=> !mask.testBit i&&((t[i-(j+1)]?).map (·.after.all λe=> !Region.binds md e||mask.testBit e.on)).getD false):=by
   apply List.filter_congr;intro i hi;have:j+1<=i:=(List.mem_range'_1.1 hi).1;rw[show i-j=(i-(j+1))+1 from by omega,eZ]
  simp only[jR,ff,fF,List.range'_succ,List.filter_cons,hc,ih,Yc,Nat.sub_self,eR,we,pM]
theorem nM(n mask i:Nat)(d:Bool)(h:i<n):(dH n mask).getD i d=mask.testBit i:=by
 simp[dH,Array.getD,h]
theorem C0(n mask i:Nat)(d:Bool)(h:¬i<n):(dH n mask).getD i d=d:=by
 simp[dH,Array.getD,h]
theorem pY(n mask i:Nat)(_:i<n):(dH n mask).setIfInBounds i true=dH n (mask|||2^i):=by
 apply Array.ext
 ·simp[dH]
 ·intro k F R;simp[dH] at F R;simp only[dH,pO,si];by_cases Q:i=k
  ·subst Q;simp
  ·simp[Q]
def et(l:List Oper):Bool:=l.all λo=>o.after.all λe=>decide (e.on<l.length)
theorem jg(l:List Oper)(mask:Nat)(iu:et l=true):Region.ready md l.toArray (dH l.length mask)=ff mask (l.map (bW md)) 0:=by
 rw[My,Region.ready,List.range_eq_range'];simp only[jN];apply List.filter_congr;intro i hi;have bY:i<l.length:=by have:=(List.mem_range'_1.1 hi).2;omega
 rw[nM _ _ _ _ bY];have e1:l.toArray[i]?=some l[i]:=by simp[bY]
 have e2:l[i-0]?=some l[i]:=by simp[bY]
 rw[e1,e2];simp only[we,pM];congr 1;rw[Af,AP,AP];have Yd:∀e∈l[i].after,e.on<l.length:=by
  intro e he;have F:=eT.1 iu l[i] (nc bY);have R:=AP.1 F e he;simpa using R
 constructor
 ·intro h e he;have:=h e he;rwa[nM _ _ _ _ (Yd e he)] at this
 ·intro h e he;rw[nM _ _ _ _ (Yd e he)];exact h e he
theorem pZ(l:List Oper):∀(fw:List Nat)(a:Act)(w:World),(fw.all λi=>decide (i<l.length))=true->wpList P l.toArray ao (fw.map λi=>l.getD i default) a w->wpOps P l.toArray ao fw a w:=by
 intro fw;induction fw with
 |nil=>intro a w _ h;exact h
 |cons i rest ih=>
  intro a w fg h;simp only[tH,cQ,dC] at fg;have hi:l.getD i default=l[i]:=by simp[List.getD,fg.1]
  rw[jR,hi] at h;have AU:l.toArray[i]?=some l[i]:=by simp[fg.1]
  rw[tM,wpOp];simp only[AU];simp only[wpList] at h;split
  ·rename_i hw;rw[aS hw] at h;exact h.imp (Oper.wp_mono λa' w' hh=>ih a' w' fg.2 hh) id
  ·rename_i hw;rw[aO hw] at h;exact ih _ _ fg.2 h
theorem Mz(n:Nat):Array.replicate n false=dH n 0:=by
 apply Array.ext
 ·simp[dH]
 ·intro i F R;simp[dH]
end
end Go.Proofs.YtmgahjkopiaglaaGreat
