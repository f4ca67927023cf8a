/- Lemmas, walks and contracts that the statements of this seat are proved by. -/
import Derived.Test.YtdfgnmdofjhnkaaG1
import Derived.Laws.Sem
import Derived.OrdersHeld
import Derived.Deep.RegionWith
/- What a run reads: what yields the same value in every world that has grown by new blocks alone. Nothing of the program. -/
namespace Go.Proofs.Ytdfgnmdofjhnkaa
open Go.RowKit

/-- w' is w with more blocks. -/
structure Ext (w w' : World) : Prop where
  size : w.heap.size ≤ w'.heap.size
  block : ∀ b, b < w.heap.size → w'.heap[b]? = w.heap[b]?
theorem Ext.refl (w : World) : Ext w w := ⟨Nat.le_refl _, fun _ _ => rfl⟩
theorem Ext.trans {a b c : World} (h : Ext a b) (h' : Ext b c) : Ext a c := ⟨Nat.le_trans h.size h'.size, fun k hk => (h'.block k (Nat.lt_of_lt_of_le hk h.size)).trans (h.block k hk)⟩
theorem Ext.some {w w' : World} (h : Ext w w') {b : Nat} {o : Obj} (hb : w.heap[b]? = some o) : w'.heap[b]? = some o := by
  rw [h.block b (Array.getElem?_eq_some_iff.1 hb).1, hb]

/-- A run that reads alone. -/
def Stab (P : Program) {α : Type} (s : Sem α) : Prop := ∀ w v w1, s.run P w = .ok v w1 → ∀ w', Ext w w' → s.run P w' = .ok v w'
/-- A run that makes new blocks, and else reads alone. -/
def Grow (P : Program) {α : Type} (s : Sem α) : Prop := ∀ w v w1, s.run P w = .ok v w1 → Ext w w1
/-- A run that never yields. -/
def Dead (P : Program) {α : Type} (s : Sem α) : Prop := ∀ w v w1, s.run P w ≠ .ok v w1
section
variable {P : Program} {α β : Type}
theorem Stab.pure (v : α) : Stab P (Pure.pure v : Sem α) := by
  intro w v' w1 h w' _
  rw [Sem.run_pure] at h ⊢
  injection h with h1 _
  rw [h1]
theorem Stab.bind {s : Sem α} {f : α → Sem β} (h : Stab P s) (hf : ∀ v, Stab P (f v)) : Stab P (s >>= f) := by
  intro w v w1 hr w' he
  rw [Sem.run_bind] at hr ⊢
  cases hs : s.run P w with
  | ok a w2 =>
    rw [hs] at hr
    have e := h w a w2 hs w (Ext.refl w)
    rw [hs] at e
    injection e with _ e
    subst e
    rw [h w2 a w2 hs w' he]
    exact hf a w2 v w1 hr w' he
  | halt x w2 => rw [hs] at hr; cases hr
theorem Dead.stab {s : Sem α} (h : Dead P s) : Stab P s := fun w v w1 hr => absurd hr (h w v w1)
theorem Dead.halt (x : Halt) : Dead P (Sem.halt x : Sem α) := by intro w v w1 h; simp [Sem.run] at h
theorem Dead.bindL {s : Sem α} {f : α → Sem β} (h : Dead P s) : Dead P (s >>= f) := by
  intro w v w1 hr
  rw [Sem.run_bind] at hr
  cases hs : s.run P w with
  | ok a w2 => exact h _ _ _ hs
  | halt x w2 => rw [hs] at hr; cases hr
theorem Dead.bindR {s : Sem α} {f : α → Sem β} (h : ∀ v, Dead P (f v)) : Dead P (s >>= f) := by
  intro w v w1 hr
  rw [Sem.run_bind] at hr
  cases hs : s.run P w with
  | ok a w2 => rw [hs] at hr; exact h _ _ _ _ hr
  | halt x w2 => rw [hs] at hr; cases hr
theorem Dead.stuck (t : String) : Dead P (Go.stuck t : Sem α) := Dead.halt _
theorem Dead.unsupported (u : Unsupported) : Dead P (Go.unsupported u : Sem α) := Dead.halt _
theorem Dead.goPanic (v : Value) : Dead P (Go.goPanic v : Sem α) := Dead.halt _
theorem Dead.runtimePanic (e : RuntimeError) : Dead P (Go.runtimePanic e : Sem α) := by
  unfold Go.runtimePanic
  refine Dead.bindR fun p => ?_
  cases e <;> dsimp only
  case typeAssertion => exact Dead.bindR fun _ => Dead.bindR fun _ => Dead.goPanic _
  case panicNil => exact Dead.bindR fun _ => Dead.bindR fun _ => Dead.goPanic _
  all_goals exact Dead.goPanic _
theorem Dead.boundsPanic (k : IntKind) (x y : Int) (c : BoundsCode) : Dead P (Go.boundsPanic k x y c : Sem α) := by
  unfold Go.boundsPanic
  dsimp only
  split <;> exact Dead.bindR fun _ => Dead.runtimePanic _
theorem Stab.program : Stab P Go.program := by
  intro w v w1 h w' _
  simp only [Go.program, Sem.run] at h ⊢
  injection h with h1 _
  rw [h1]

theorem seen_ext {w w' : World} (he : Ext w w') {at_ k : Addr} {u : TypeId} {b : Bool} {r : Array Value × TypeId × (Nat × Nat) × Nat × Value × List (Nat × Nat × List UInt8)} (h : w.seen P at_ u k b = .ok r) : w'.seen P at_ u k b = .ok r := by
  unfold World.seen at h ⊢
  cases hb : w.heap[at_.block]? with
  | none =>
    exfalso
    revert h
    rw [hb]
    simp only [bind, Except.bind]
    repeat' split
    all_goals simp
  | some o =>
    rw [he.some hb]
    rw [hb] at h
    exact h
theorem farLoad_ext {w w' : World} (he : Ext w w') {a : Addr} {b : Bool} {r : Value × List Addr} (h : w.farLoad P a b = .ok r) : w'.farLoad P a b = .ok r := by
  unfold World.farLoad at h ⊢
  cases hb : w.heap[a.block]? with
  | none => rw [hb] at h; cases h
  | some o =>
    rw [he.some hb]
    rw [hb] at h
    cases o <;> dsimp only at h ⊢ <;> try (cases h; done)
    case view at_ u =>
      cases hv : w.viewLoad P at_ u a b with
      | error e => rw [hv] at h; cases h
      | ok x =>
        rw [hv] at h
        have e2 : w'.viewLoad P at_ u a b = .ok x := by
          unfold World.viewLoad at hv ⊢
          cases hs : w.seen P at_ u a b with
          | error e => rw [hs] at hv; cases hv
          | ok y => rw [seen_ext he hs]; rw [hs] at hv; exact hv
        rw [e2]; exact h
theorem Stab.load (a : Addr) : Stab P (Go.load a) := by
  intro w v w1 h w' he
  unfold Go.load at h ⊢
  simp only [Sem.run] at h ⊢
  cases hc : w.cell? a with
  | some x =>
    rw [hc] at h
    have : w'.cell? a = some x := by
      unfold World.cell? at hc ⊢
      cases hb : w.heap[a.block]? with
      | none => rw [hb] at hc; cases hc
      | some o => rw [he.some hb]; rw [hb] at hc; exact hc
    rw [this]
    dsimp only at h ⊢
    injection h with h1 _
    rw [h1]
  | none =>
    rw [hc] at h
    dsimp only at h
    cases hf : w.farLoad P a (Mode.plain == Mode.atomic) with
    | error e => rw [hf] at h; cases h
    | ok y =>
      rw [hf] at h
      have hc' : w'.cell? a = none := by
        unfold World.cell? at hc ⊢
        unfold World.farLoad at hf
        cases hb : w.heap[a.block]? with
        | none => rw [hb] at hf; cases hf
        | some o => rw [he.some hb]; rw [hb] at hc; exact hc
      rw [hc', farLoad_ext he hf]
      dsimp only at h ⊢
      injection h with h1 _
      rw [h1]
theorem Stab.getObj (r : Nat) : Stab P (Go.getObj r) := by
  intro w v w1 h w' he
  unfold Go.getObj at h ⊢
  simp only [Sem.run] at h ⊢
  cases hb : w.heap[r]? with
  | none => rw [hb] at h; cases h
  | some o =>
    rw [he.some hb]
    rw [hb] at h
    cases o <;> dsimp only at h ⊢ <;> first | (cases h; done) | (injection h with h1 _; rw [h1])
theorem Stab.shape {r : Nat} {f : Option (TypeId × Nat) → Sem β} (hn : ∀ w v w1, w.heap[r]? = none → (f none).run P w ≠ .ok v w1) (hf : ∀ x, Stab P (f x)) : Stab P (Go.shape r >>= f) := by
  intro w v w1 h w' he
  rw [Sem.run_bind] at h ⊢
  simp only [Go.shape, Sem.run, Result.andThen_ok] at h ⊢
  cases hb : w.heap[r]? with
  | none =>
    have : w.shape? r = none := by unfold World.shape?; rw [hb]
    rw [this] at h
    exact absurd h (hn _ _ _ hb)
  | some o =>
    have : w'.shape? r = w.shape? r := by unfold World.shape?; rw [hb, he.some hb]
    rw [this]
    exact hf _ w v w1 h w' he
theorem Stab.ite {c : Prop} [Decidable c] {s t : Sem α} (hs : c → Stab P s) (ht : ¬ c → Stab P t) : Stab P (if c then s else t) := by
  split
  · exact hs ‹_›
  · exact ht ‹_›
theorem getObj_none {r : Nat} {f : Obj → Sem β} {w : World} (hb : w.heap[r]? = none) (v : β) (w1 : World) : (Go.getObj r >>= f).run P w ≠ .ok v w1 := by
  rw [Sem.run_bind]
  simp only [Go.getObj, Sem.run, hb]
  simp
theorem Stab.viewAt (r : Nat) : Stab P (Go.viewAt r) := by
  unfold Go.viewAt
  refine Stab.shape (fun w v w1 hb => ?_) fun x => ?_
  · simp only [Option.isSome_none, Bool.false_eq_true, if_false]
    exact getObj_none hb _ _
  · split
    · exact Stab.pure _
    · refine Stab.bind (Stab.getObj _) fun o => ?_
      cases o <;> exact Stab.pure _
theorem Stab.typeInfo (t : TypeId) : Stab P (Go.typeInfo t) := by
  unfold Go.typeInfo
  refine Stab.bind Stab.program fun p => ?_
  split
  · exact Stab.pure _
  · exact (Dead.stuck _).stab
theorem Stab.underlying (t : TypeId) : Stab P (Go.underlying t) := by
  unfold Go.underlying
  refine Stab.bind Stab.program fun p => ?_
  split
  · exact Stab.pure _
  · exact (Dead.stuck _).stab
theorem Stab.sizeOf (t : TypeId) : Stab P (Go.sizeOf t) := Stab.bind (Stab.typeInfo t) fun _ => Stab.pure _
theorem Stab.zeroValue (t : TypeId) : Stab P (Go.zeroValue t) := by
  unfold Go.zeroValue
  refine Stab.bind (Stab.typeInfo t) fun i => ?_
  split
  · exact Stab.pure _
  · exact (Dead.unsupported _).stab
theorem Stab.isAgg (t : TypeId) : Stab P (Go.isAgg t) := by
  unfold Go.isAgg
  refine Stab.bind (Stab.underlying t) fun d => ?_
  split <;> exact Stab.pure _
theorem Stab.loadCellsFrom (a : Addr) : ∀ (n i : Nat) (acc : Array Value), Stab P (Go.loadCellsFrom a i n acc) := by
  intro n
  induction n with
  | zero => intro i acc; exact Stab.pure _
  | succ n ih => intro i acc; exact Stab.bind (Stab.load _) fun v => ih _ _
theorem Stab.loadVar (t : TypeId) (a : Addr) : Stab P (Go.loadVar t a) := by
  unfold Go.loadVar
  refine Stab.bind (Stab.isAgg t) fun b => ?_
  split
  · exact Stab.bind (Stab.sizeOf t) fun n => Stab.bind (Stab.loadCellsFrom a n 0 #[]) fun _ => Stab.pure _
  · exact Stab.load a
theorem Stab.sureAddr (v : Value) : Stab P (Instr.sureAddr v) := by
  unfold Instr.sureAddr
  split
  · exact Stab.pure _
  · exact (Dead.stuck _).stab
theorem Stab.asIntOf (v : Value) : Stab P (Go.asIntOf v) := by
  unfold Go.asIntOf
  split
  · exact Stab.pure _
  · exact (Dead.unsupported _).stab
  · exact (Dead.stuck _).stab
theorem Stab.asBool (v : Value) : Stab P (Go.asBool v) := by
  unfold Go.asBool
  split
  · exact Stab.pure _
  · exact (Dead.stuck _).stab
theorem Stab.loadAt (t : TypeId) (v : Value) : Stab P (Instr.loadAt t v) := Stab.bind (Stab.sureAddr v) fun a => Stab.loadVar t a
theorem Stab.indexAt (t : TypeId) (x ix : Value) : Stab P (Instr.indexAt t x ix) := by
  unfold Instr.indexAt
  try dsimp only
  repeat' first | exact Stab.pure _ | exact (Dead.stuck _).stab | exact (Dead.unsupported _).stab | exact (Dead.boundsPanic _ _ _ _).stab | exact (Dead.runtimePanic _).stab | exact (Dead.goPanic _).stab | exact Stab.underlying _ | exact Stab.sizeOf _ | exact Stab.typeInfo _ | exact Stab.zeroValue _ | exact Stab.isAgg _ | exact Stab.sureAddr _ | exact Stab.asIntOf _ | exact Stab.asBool _ | exact Stab.loadVar _ _ | exact Stab.load _ | exact Stab.getObj _ | exact Stab.viewAt _ | exact Stab.program | (refine Stab.bind ?_ fun _ => ?_) | split
theorem Stab.sliceBound (x : Value) (y : Nat) (c : BoundsCode) : Stab P (Instr.sliceBound x y c) := by
  unfold Instr.sliceBound
  try dsimp only
  repeat' first | exact Stab.pure _ | exact (Dead.stuck _).stab | exact (Dead.unsupported _).stab | exact (Dead.boundsPanic _ _ _ _).stab | exact (Dead.runtimePanic _).stab | exact (Dead.goPanic _).stab | exact Stab.underlying _ | exact Stab.sizeOf _ | exact Stab.typeInfo _ | exact Stab.zeroValue _ | exact Stab.isAgg _ | exact Stab.sureAddr _ | exact Stab.asIntOf _ | exact Stab.asBool _ | exact Stab.loadVar _ _ | exact Stab.load _ | exact Stab.getObj _ | exact Stab.viewAt _ | exact Stab.program | (refine Stab.bind ?_ fun _ => ?_) | split
theorem Stab.sliceBounds (b : Bool) (n c : Nat) (lo hi mx : Option Value) : Stab P (Instr.sliceBounds b n c lo hi mx) := by
  unfold Instr.sliceBounds
  try dsimp only
  repeat' first | exact Stab.sliceBound _ _ _ | exact Stab.pure _ | exact (Dead.stuck _).stab | exact (Dead.unsupported _).stab | exact (Dead.boundsPanic _ _ _ _).stab | exact (Dead.runtimePanic _).stab | exact (Dead.goPanic _).stab | exact Stab.underlying _ | exact Stab.sizeOf _ | exact Stab.typeInfo _ | exact Stab.zeroValue _ | exact Stab.isAgg _ | exact Stab.sureAddr _ | exact Stab.asIntOf _ | exact Stab.asBool _ | exact Stab.loadVar _ _ | exact Stab.load _ | exact Stab.getObj _ | exact Stab.viewAt _ | exact Stab.program | (refine Stab.bind ?_ fun _ => ?_) | split
theorem Stab.part (t : TypeId) (cs : Array Value) (off : Nat) : Stab P (Go.part t cs off) := by
  unfold Go.part
  try dsimp only
  repeat' first | exact Stab.pure _ | exact (Dead.stuck _).stab | exact (Dead.unsupported _).stab | exact (Dead.boundsPanic _ _ _ _).stab | exact (Dead.runtimePanic _).stab | exact (Dead.goPanic _).stab | exact Stab.underlying _ | exact Stab.sizeOf _ | exact Stab.typeInfo _ | exact Stab.zeroValue _ | exact Stab.isAgg _ | exact Stab.sureAddr _ | exact Stab.asIntOf _ | exact Stab.asBool _ | exact Stab.loadVar _ _ | exact Stab.load _ | exact Stab.getObj _ | exact Stab.viewAt _ | exact Stab.program | (refine Stab.bind ?_ fun _ => ?_) | split
theorem Stab.asAgg (v : Value) : Stab P (Go.asAgg v) := by
  unfold Go.asAgg
  try dsimp only
  repeat' first | exact Stab.pure _ | exact (Dead.stuck _).stab | exact (Dead.unsupported _).stab | exact (Dead.boundsPanic _ _ _ _).stab | exact (Dead.runtimePanic _).stab | exact (Dead.goPanic _).stab | exact Stab.underlying _ | exact Stab.sizeOf _ | exact Stab.typeInfo _ | exact Stab.zeroValue _ | exact Stab.isAgg _ | exact Stab.sureAddr _ | exact Stab.asIntOf _ | exact Stab.asBool _ | exact Stab.loadVar _ _ | exact Stab.load _ | exact Stab.getObj _ | exact Stab.viewAt _ | exact Stab.program | (refine Stab.bind ?_ fun _ => ?_) | split
theorem Stab.asAddr (v : Value) : Stab P (Go.asAddr v) := by
  unfold Go.asAddr
  try dsimp only
  repeat' first | exact Stab.pure _ | exact (Dead.stuck _).stab | exact (Dead.unsupported _).stab | exact (Dead.boundsPanic _ _ _ _).stab | exact (Dead.runtimePanic _).stab | exact (Dead.goPanic _).stab | exact Stab.underlying _ | exact Stab.sizeOf _ | exact Stab.typeInfo _ | exact Stab.zeroValue _ | exact Stab.isAgg _ | exact Stab.sureAddr _ | exact Stab.asIntOf _ | exact Stab.asBool _ | exact Stab.loadVar _ _ | exact Stab.load _ | exact Stab.getObj _ | exact Stab.viewAt _ | exact Stab.program | (refine Stab.bind ?_ fun _ => ?_) | split
theorem Stab.slice (t : TypeId) (x : Value) (lo hi mx : Option Value) : Stab P (Instr.slice t x lo hi mx) := by
  unfold Instr.slice
  try dsimp only
  repeat' first | exact Stab.sliceBounds _ _ _ _ _ _ | exact Stab.asAddr _ | exact Stab.pure _ | exact (Dead.stuck _).stab | exact (Dead.unsupported _).stab | exact (Dead.boundsPanic _ _ _ _).stab | exact (Dead.runtimePanic _).stab | exact (Dead.goPanic _).stab | exact Stab.underlying _ | exact Stab.sizeOf _ | exact Stab.typeInfo _ | exact Stab.zeroValue _ | exact Stab.isAgg _ | exact Stab.sureAddr _ | exact Stab.asIntOf _ | exact Stab.asBool _ | exact Stab.loadVar _ _ | exact Stab.load _ | exact Stab.getObj _ | exact Stab.viewAt _ | exact Stab.program | (refine Stab.bind ?_ fun _ => ?_) | split
theorem Stab.field (t : TypeId) (x : Value) (f : Nat) : Stab P (Instr.field t x f) := by
  unfold Instr.field
  try dsimp only
  repeat' first | exact Stab.part _ _ _ | exact Stab.asAgg _ | exact Stab.pure _ | exact (Dead.stuck _).stab | exact (Dead.unsupported _).stab | exact (Dead.boundsPanic _ _ _ _).stab | exact (Dead.runtimePanic _).stab | exact (Dead.goPanic _).stab | exact Stab.underlying _ | exact Stab.sizeOf _ | exact Stab.typeInfo _ | exact Stab.zeroValue _ | exact Stab.isAgg _ | exact Stab.sureAddr _ | exact Stab.asIntOf _ | exact Stab.asBool _ | exact Stab.loadVar _ _ | exact Stab.load _ | exact Stab.getObj _ | exact Stab.viewAt _ | exact Stab.program | (refine Stab.bind ?_ fun _ => ?_) | split
theorem Stab.index (t : TypeId) (x i : Value) : Stab P (Instr.index t x i) := by
  unfold Instr.index
  try dsimp only
  repeat' first | exact Stab.part _ _ _ | exact Stab.asAgg _ | exact Stab.pure _ | exact (Dead.stuck _).stab | exact (Dead.unsupported _).stab | exact (Dead.boundsPanic _ _ _ _).stab | exact (Dead.runtimePanic _).stab | exact (Dead.goPanic _).stab | exact Stab.underlying _ | exact Stab.sizeOf _ | exact Stab.typeInfo _ | exact Stab.zeroValue _ | exact Stab.isAgg _ | exact Stab.sureAddr _ | exact Stab.asIntOf _ | exact Stab.asBool _ | exact Stab.loadVar _ _ | exact Stab.load _ | exact Stab.getObj _ | exact Stab.viewAt _ | exact Stab.program | (refine Stab.bind ?_ fun _ => ?_) | split
theorem Stab.extract (x : Value) (i : Nat) : Stab P (Instr.extract x i) := by
  unfold Instr.extract
  try dsimp only
  repeat' first | exact Stab.pure _ | exact (Dead.stuck _).stab | exact (Dead.unsupported _).stab | exact (Dead.boundsPanic _ _ _ _).stab | exact (Dead.runtimePanic _).stab | exact (Dead.goPanic _).stab | exact Stab.underlying _ | exact Stab.sizeOf _ | exact Stab.typeInfo _ | exact Stab.zeroValue _ | exact Stab.isAgg _ | exact Stab.sureAddr _ | exact Stab.asIntOf _ | exact Stab.asBool _ | exact Stab.loadVar _ _ | exact Stab.load _ | exact Stab.getObj _ | exact Stab.viewAt _ | exact Stab.program | (refine Stab.bind ?_ fun _ => ?_) | split
theorem Stab.makeInterface (t : TypeId) (x : Value) : Stab P (Instr.makeInterface t x) := by
  unfold Instr.makeInterface
  try dsimp only
  repeat' first | exact Stab.pure _ | exact (Dead.stuck _).stab | exact (Dead.unsupported _).stab | exact (Dead.boundsPanic _ _ _ _).stab | exact (Dead.runtimePanic _).stab | exact (Dead.goPanic _).stab | exact Stab.underlying _ | exact Stab.sizeOf _ | exact Stab.typeInfo _ | exact Stab.zeroValue _ | exact Stab.isAgg _ | exact Stab.sureAddr _ | exact Stab.asIntOf _ | exact Stab.asBool _ | exact Stab.loadVar _ _ | exact Stab.load _ | exact Stab.getObj _ | exact Stab.viewAt _ | exact Stab.program | (refine Stab.bind ?_ fun _ => ?_) | split
theorem Stab.intArith (op : BinOp) (k : IntKind) (x y : Int) : Stab P (Op.intArith op k x y) := by
  unfold Op.intArith
  try dsimp only
  repeat' first | exact Stab.pure _ | exact (Dead.stuck _).stab | exact (Dead.unsupported _).stab | exact (Dead.boundsPanic _ _ _ _).stab | exact (Dead.runtimePanic _).stab | exact (Dead.goPanic _).stab | exact Stab.underlying _ | exact Stab.sizeOf _ | exact Stab.typeInfo _ | exact Stab.zeroValue _ | exact Stab.isAgg _ | exact Stab.sureAddr _ | exact Stab.asIntOf _ | exact Stab.asBool _ | exact Stab.loadVar _ _ | exact Stab.load _ | exact Stab.getObj _ | exact Stab.viewAt _ | exact Stab.program | (refine Stab.bind ?_ fun _ => ?_) | split
theorem Stab.intBits (op : BinOp) (k : IntKind) (x y : Int) : Stab P (Op.intBits op k x y) := by
  unfold Op.intBits
  try dsimp only
  repeat' first | exact Stab.pure _ | exact (Dead.stuck _).stab | exact (Dead.unsupported _).stab | exact (Dead.boundsPanic _ _ _ _).stab | exact (Dead.runtimePanic _).stab | exact (Dead.goPanic _).stab | exact Stab.underlying _ | exact Stab.sizeOf _ | exact Stab.typeInfo _ | exact Stab.zeroValue _ | exact Stab.isAgg _ | exact Stab.sureAddr _ | exact Stab.asIntOf _ | exact Stab.asBool _ | exact Stab.loadVar _ _ | exact Stab.load _ | exact Stab.getObj _ | exact Stab.viewAt _ | exact Stab.program | (refine Stab.bind ?_ fun _ => ?_) | split
theorem Stab.intDiv (op : BinOp) (k : IntKind) (x y : Int) : Stab P (Op.intDiv op k x y) := by
  unfold Op.intDiv
  try dsimp only
  repeat' first | exact Stab.pure _ | exact (Dead.stuck _).stab | exact (Dead.unsupported _).stab | exact (Dead.boundsPanic _ _ _ _).stab | exact (Dead.runtimePanic _).stab | exact (Dead.goPanic _).stab | exact Stab.underlying _ | exact Stab.sizeOf _ | exact Stab.typeInfo _ | exact Stab.zeroValue _ | exact Stab.isAgg _ | exact Stab.sureAddr _ | exact Stab.asIntOf _ | exact Stab.asBool _ | exact Stab.loadVar _ _ | exact Stab.load _ | exact Stab.getObj _ | exact Stab.viewAt _ | exact Stab.program | (refine Stab.bind ?_ fun _ => ?_) | split
theorem Stab.intCmp (op : BinOp) (x y : Int) : Stab P (Op.intCmp op x y) := by
  unfold Op.intCmp
  try dsimp only
  repeat' first | exact Stab.pure _ | exact (Dead.stuck _).stab | exact (Dead.unsupported _).stab | exact (Dead.boundsPanic _ _ _ _).stab | exact (Dead.runtimePanic _).stab | exact (Dead.goPanic _).stab | exact Stab.underlying _ | exact Stab.sizeOf _ | exact Stab.typeInfo _ | exact Stab.zeroValue _ | exact Stab.isAgg _ | exact Stab.sureAddr _ | exact Stab.asIntOf _ | exact Stab.asBool _ | exact Stab.loadVar _ _ | exact Stab.load _ | exact Stab.getObj _ | exact Stab.viewAt _ | exact Stab.program | (refine Stab.bind ?_ fun _ => ?_) | split
theorem Stab.shift (op : BinOp) (k : IntKind) (x : Int) (k2 : IntKind) (y : Int) : Stab P (Op.shift op k x k2 y) := by
  unfold Op.shift
  try dsimp only
  repeat' first | exact Stab.pure _ | exact (Dead.stuck _).stab | exact (Dead.unsupported _).stab | exact (Dead.boundsPanic _ _ _ _).stab | exact (Dead.runtimePanic _).stab | exact (Dead.goPanic _).stab | exact Stab.underlying _ | exact Stab.sizeOf _ | exact Stab.typeInfo _ | exact Stab.zeroValue _ | exact Stab.isAgg _ | exact Stab.sureAddr _ | exact Stab.asIntOf _ | exact Stab.asBool _ | exact Stab.loadVar _ _ | exact Stab.load _ | exact Stab.getObj _ | exact Stab.viewAt _ | exact Stab.program | (refine Stab.bind ?_ fun _ => ?_) | split
theorem Stab.stringOp (op : BinOp) (x y : ByteArray) : Stab P (Op.stringOp op x y) := by
  unfold Op.stringOp
  try dsimp only
  repeat' first | exact Stab.pure _ | exact (Dead.stuck _).stab | exact (Dead.unsupported _).stab | exact (Dead.boundsPanic _ _ _ _).stab | exact (Dead.runtimePanic _).stab | exact (Dead.goPanic _).stab | exact Stab.underlying _ | exact Stab.sizeOf _ | exact Stab.typeInfo _ | exact Stab.zeroValue _ | exact Stab.isAgg _ | exact Stab.sureAddr _ | exact Stab.asIntOf _ | exact Stab.asBool _ | exact Stab.loadVar _ _ | exact Stab.load _ | exact Stab.getObj _ | exact Stab.viewAt _ | exact Stab.program | (refine Stab.bind ?_ fun _ => ?_) | split
theorem Stab.unary (op : UnOp) (x : Value) : Stab P (Op.unary op x) := by
  unfold Op.unary
  try dsimp only
  repeat' first | exact Stab.intArith _ _ _ _ | exact Stab.intBits _ _ _ _ | exact Stab.pure _ | exact (Dead.stuck _).stab | exact (Dead.unsupported _).stab | exact (Dead.boundsPanic _ _ _ _).stab | exact (Dead.runtimePanic _).stab | exact (Dead.goPanic _).stab | exact Stab.underlying _ | exact Stab.sizeOf _ | exact Stab.typeInfo _ | exact Stab.zeroValue _ | exact Stab.isAgg _ | exact Stab.sureAddr _ | exact Stab.asIntOf _ | exact Stab.asBool _ | exact Stab.loadVar _ _ | exact Stab.load _ | exact Stab.getObj _ | exact Stab.viewAt _ | exact Stab.program | (refine Stab.bind ?_ fun _ => ?_) | split
theorem Stab.len (ts : Array TypeId) (t : TypeId) (xs : Array Value) : Stab P (Builtin.len_ ts t xs) := by
  unfold Builtin.len_
  try dsimp only
  repeat' first | exact Stab.pure _ | exact (Dead.stuck _).stab | exact (Dead.unsupported _).stab | exact (Dead.boundsPanic _ _ _ _).stab | exact (Dead.runtimePanic _).stab | exact (Dead.goPanic _).stab | exact Stab.underlying _ | exact Stab.sizeOf _ | exact Stab.typeInfo _ | exact Stab.zeroValue _ | exact Stab.isAgg _ | exact Stab.sureAddr _ | exact Stab.asIntOf _ | exact Stab.asBool _ | exact Stab.loadVar _ _ | exact Stab.load _ | exact Stab.getObj _ | exact Stab.viewAt _ | exact Stab.program | (refine Stab.bind ?_ fun _ => ?_) | split
theorem Stab.cap (ts : Array TypeId) (t : TypeId) (xs : Array Value) : Stab P (Builtin.cap_ ts t xs) := by
  unfold Builtin.cap_
  try dsimp only
  repeat' first | exact Stab.pure _ | exact (Dead.stuck _).stab | exact (Dead.unsupported _).stab | exact (Dead.boundsPanic _ _ _ _).stab | exact (Dead.runtimePanic _).stab | exact (Dead.goPanic _).stab | exact Stab.underlying _ | exact Stab.sizeOf _ | exact Stab.typeInfo _ | exact Stab.zeroValue _ | exact Stab.isAgg _ | exact Stab.sureAddr _ | exact Stab.asIntOf _ | exact Stab.asBool _ | exact Stab.loadVar _ _ | exact Stab.load _ | exact Stab.getObj _ | exact Stab.viewAt _ | exact Stab.program | (refine Stab.bind ?_ fun _ => ?_) | split
theorem Stab.noView (a : Addr) : Stab P (Go.noView a) := by
  unfold Go.noView
  try dsimp only
  repeat' first | exact Stab.pure _ | exact (Dead.stuck _).stab | exact (Dead.unsupported _).stab | exact (Dead.boundsPanic _ _ _ _).stab | exact (Dead.runtimePanic _).stab | exact (Dead.goPanic _).stab | exact Stab.underlying _ | exact Stab.sizeOf _ | exact Stab.typeInfo _ | exact Stab.zeroValue _ | exact Stab.isAgg _ | exact Stab.sureAddr _ | exact Stab.asIntOf _ | exact Stab.asBool _ | exact Stab.loadVar _ _ | exact Stab.load _ | exact Stab.getObj _ | exact Stab.viewAt _ | exact Stab.program | (refine Stab.bind ?_ fun _ => ?_) | split
theorem Stab.sliceAt (t : TypeId) (x : Value) (lo hi mx : Option Value) : Stab P (Instr.sliceAt t x lo hi mx) := by
  unfold Instr.sliceAt
  try dsimp only
  repeat' first | exact Stab.sliceBounds _ _ _ _ _ _ | exact Stab.slice _ _ _ _ _ | exact Stab.pure _ | exact (Dead.stuck _).stab | exact (Dead.unsupported _).stab | exact (Dead.boundsPanic _ _ _ _).stab | exact (Dead.runtimePanic _).stab | exact (Dead.goPanic _).stab | exact Stab.underlying _ | exact Stab.sizeOf _ | exact Stab.typeInfo _ | exact Stab.zeroValue _ | exact Stab.isAgg _ | exact Stab.sureAddr _ | exact Stab.asIntOf _ | exact Stab.asBool _ | exact Stab.loadVar _ _ | exact Stab.load _ | exact Stab.getObj _ | exact Stab.viewAt _ | exact Stab.program | (refine Stab.bind ?_ fun _ => ?_) | split
theorem Stab.byteOf (a : Addr) : Stab P (Go.byteOf a) := by
  unfold Go.byteOf
  split
  · exact Stab.pure _
  · dsimp only
    refine Stab.bind Stab.program fun p => Stab.bind (Stab.noView _) fun _ => Stab.shape (fun w v w1 _ => Dead.stuck _ w v w1) fun x => ?_
    cases x with
    | none => exact (Dead.stuck _).stab
    | some y =>
      dsimp only
      repeat' first | exact Stab.pure _ | exact (Dead.stuck _).stab | split
theorem Stab.partAt (a : Addr) (c b : Nat) : Stab P (Go.partAt a c b) := by
  unfold Go.partAt
  refine Stab.bind (Stab.byteOf _) fun x => ?_
  dsimp only
  exact Stab.bind (Stab.byteOf _) fun _ => Stab.pure _
theorem Stab.fieldPlace (a : Addr) (f : Field) : Stab P (Go.fieldPlace a f) := by
  unfold Go.fieldPlace
  refine Stab.bind (Stab.sizeOf _) fun n => ?_
  split
  · exact Stab.partAt _ _ _
  · exact Stab.pure _
theorem Stab.listMapM {γ : Type} {f : γ → Sem α} (hf : ∀ x, Stab P (f x)) : ∀ l : List γ, Stab P (l.mapM f) := by
  intro l
  induction l with
  | nil => rw [List.mapM_nil]; exact Stab.pure _
  | cons x t ih => rw [List.mapM_cons]; exact Stab.bind (hf x) fun _ => Stab.bind ih fun _ => Stab.pure _
theorem Stab.mapM {γ : Type} {f : γ → Sem α} (hf : ∀ x, Stab P (f x)) (l : Array γ) : Stab P (l.mapM f) := by
  rw [Array.mapM_eq_mapM_toList]
  intro w v w1 h w' he
  rw [Sem.run_map] at h ⊢
  cases hs : (List.mapM f l.toList).run P w with
  | ok a w2 =>
    rw [hs] at h
    rw [Stab.listMapM hf l.toList w a w2 hs w' he]
    simp only [Result.andThen_ok] at h ⊢
    injection h with h1 _
    rw [h1]
  | halt x w2 => rw [hs] at h; cases h
theorem Stab.fieldAt (t : TypeId) (x : Value) (f : Nat) : Stab P (Instr.fieldAt t x f) := by
  unfold Instr.fieldAt
  try dsimp only
  repeat' first | exact Stab.fieldPlace _ _ | exact Stab.pure _ | exact (Dead.stuck _).stab | exact (Dead.unsupported _).stab | exact (Dead.boundsPanic _ _ _ _).stab | exact (Dead.runtimePanic _).stab | exact (Dead.goPanic _).stab | exact Stab.underlying _ | exact Stab.sizeOf _ | exact Stab.typeInfo _ | exact Stab.zeroValue _ | exact Stab.isAgg _ | exact Stab.sureAddr _ | exact Stab.asIntOf _ | exact Stab.asBool _ | exact Stab.loadVar _ _ | exact Stab.load _ | exact Stab.getObj _ | exact Stab.viewAt _ | exact Stab.program | (refine Stab.bind ?_ fun _ => ?_) | split
theorem Stab.build (t : TypeId) (ps : Array (Nat × Value)) : Stab P (Instr.build t ps) := by
  unfold Instr.build
  try dsimp only
  repeat' first | exact Stab.mapM (fun _ => Stab.bind (Stab.sizeOf _) fun _ => Stab.pure _) _ | exact Stab.pure _ | exact (Dead.stuck _).stab | exact (Dead.unsupported _).stab | exact (Dead.boundsPanic _ _ _ _).stab | exact (Dead.runtimePanic _).stab | exact (Dead.goPanic _).stab | exact Stab.underlying _ | exact Stab.sizeOf _ | exact Stab.typeInfo _ | exact Stab.zeroValue _ | exact Stab.isAgg _ | exact Stab.sureAddr _ | exact Stab.asIntOf _ | exact Stab.asBool _ | exact Stab.loadVar _ _ | exact Stab.load _ | exact Stab.getObj _ | exact Stab.viewAt _ | exact Stab.program | (refine Stab.bind ?_ fun _ => ?_) | split

theorem Stab.grow {s : Sem α} (h : Stab P s) : Grow P s := by
  intro w v w1 hr
  have e := h w v w1 hr w (Ext.refl w)
  rw [hr] at e
  injection e with _ e
  subst e
  exact Ext.refl _
theorem Grow.bind {s : Sem α} {f : α → Sem β} (h : Grow P s) (hf : ∀ v, Grow P (f v)) : Grow P (s >>= f) := by
  intro w v w1 hr
  rw [Sem.run_bind] at hr
  cases hs : s.run P w with
  | ok a w2 => rw [hs] at hr; exact (h w a w2 hs).trans (hf a w2 v w1 hr)
  | halt x w2 => rw [hs] at hr; cases hr
theorem Grow.newObj (o : Obj) : Grow P (Go.newObj o) := by
  intro w v w1 h
  simp only [Go.newObj, Sem.run] at h
  injection h with _ h
  subst h
  exact ⟨by simp, fun b hb => by simp [Array.getElem?_push, Nat.ne_of_lt hb]⟩
theorem Grow.choose (q : Question) : Grow P (Go.choose q) := by
  intro w v w1 h
  simp only [Go.choose, Sem.run] at h
  split at h <;> (injection h with _ h; subst h; exact ⟨Nat.le_refl _, fun _ _ => rfl⟩)
theorem Grow.newRow (t : TypeId) (cs : Array Value) : Grow P (Go.newRow t cs) := Grow.bind (Grow.newObj _) fun _ => (Stab.pure _).grow
theorem Grow.newVar (t : TypeId) (v : Value) : Grow P (Go.newVar t v) := Grow.newRow _ _
theorem Grow.box (t : TypeId) (v : Value) : Grow P (Instr.box t v) := Grow.bind (Grow.newVar _ _) fun _ => (Stab.pure _).grow
theorem Grow.alloc (t : TypeId) : Grow P (Instr.alloc t true (.tuple #[])) := by
  unfold Instr.alloc
  exact Grow.bind (Stab.zeroValue t).grow fun z => Grow.bind (Grow.newVar _ _) fun _ => (Stab.pure _).grow
theorem Grow.buildSlice (t : TypeId) (n : Nat) (ps : Array (Nat × Value)) : Grow P (Instr.buildSlice t n ps) := by
  unfold Instr.buildSlice
  dsimp only
  repeat' first | exact (Stab.pure _).grow | exact ((Dead.stuck _).stab).grow | exact ((Dead.unsupported _).stab).grow | exact (Stab.underlying _).grow | exact (Stab.sizeOf _).grow | exact (Stab.zeroValue _).grow | exact Grow.newRow _ _ | (refine Grow.bind ?_ fun _ => ?_) | split
theorem Grow.listFoldlM {γ : Type} {f : α → γ → Sem α} (hf : ∀ x y, Grow P (f x y)) : ∀ (l : List γ) (x : α), Grow P (l.foldlM f x) := by
  intro l
  induction l with
  | nil => intro x; rw [List.foldlM_nil]; exact (Stab.pure _).grow
  | cons y t ih => intro x; rw [List.foldlM_cons]; exact Grow.bind (hf x y) fun _ => ih _
theorem Grow.min2 (x y : Value) : Grow P (Builtin.min2 x y) := by
  unfold Builtin.min2
  repeat' first | exact (Stab.pure _).grow | exact ((Dead.stuck _).stab).grow | exact ((Dead.unsupported _).stab).grow | exact (Stab.stringOp _ _ _).grow | exact (Stab.asBool _).grow | exact Grow.choose _ | (refine Grow.bind ?_ fun _ => ?_) | split
theorem Grow.max2 (x y : Value) : Grow P (Builtin.max2 x y) := by
  unfold Builtin.max2
  repeat' first | exact (Stab.pure _).grow | exact ((Dead.stuck _).stab).grow | exact ((Dead.unsupported _).stab).grow | exact (Stab.stringOp _ _ _).grow | exact (Stab.asBool _).grow | exact Grow.choose _ | (refine Grow.bind ?_ fun _ => ?_) | split
theorem Grow.min_ (ts : Array TypeId) (t : TypeId) (xs : Array Value) : Grow P (Builtin.min_ ts t xs) := by
  unfold Builtin.min_
  split
  · exact ((Dead.stuck _).stab).grow
  · exact Grow.listFoldlM Grow.min2 _ _
theorem Grow.max_ (ts : Array TypeId) (t : TypeId) (xs : Array Value) : Grow P (Builtin.max_ ts t xs) := by
  unfold Builtin.max_
  split
  · exact ((Dead.stuck _).stab).grow
  · exact Grow.listFoldlM Grow.max2 _ _

end
end Go.Proofs.Ytdfgnmdofjhnkaa

/- A region that draws its order, walked in the text's own order: where at each point one operation alone may come up, or the next one is a plain move that is free of all others. -/
namespace Go.Proofs.Ytdfgnmdofjhnkaa
section
variable {P : Program} {ops : Array Oper} {Q : Exit → Act → World → Prop} {md : Region.Mode}

/-- A plain move into a temporary. -/
def plainMove (o : Oper) : Bool := match o.op, o.dst with
  | .move _, some _ => true
  | .assign _, some _ => true
  | _, _ => false

def seqOK (md : Region.Mode) (ops : Array Oper) : Array Bool → List Nat → Bool
  | listed, [] => (Region.ready md ops listed).isEmpty
  | listed, i :: rest =>
    ((Region.ready md ops listed == [i]) || ((Region.ready md ops listed).contains i && ((ops[i]?).map plainMove).getD false && Region.free md ops listed i)) &&
      seqOK md ops (listed.setIfInBounds i true) rest

theorem move_run {o : Oper} (h : plainMove o = true) (ρ : Operand → Value) : ∃ d v, o.dst = some d ∧ (∀ w, (execOp ρ o).run P w = .ok (.value v) w) ∧ (∀ w, ((execOp ρ o).runT P w #[]).2 = #[]) := by
  obtain ⟨dst, op, type, pos, after, guard⟩ := o
  cases op <;> cases dst <;> simp [plainMove] at h
  · exact ⟨_, _, rfl, fun w => rfl, fun w => rfl⟩
  · exact ⟨_, _, rfl, fun w => rfl, fun w => rfl⟩

theorem wpAny_seq (hs : Region.noSelect ops = true) (hQ : ∀ c a d v w, Q (.panic c) (a.put (some d) v) w → Q (.panic c) a w) :
    ∀ (plan : List Nat) (fuel : Nat) (listed : Array Bool) (a : Act) (w : World), seqOK md ops listed plan = true → plan.length ≤ fuel → wpOps P ops Q plan a w → wpAny P md ops Q fuel listed a w := by
  intro plan
  induction plan with
  | nil =>
    intro fuel listed a w hok _ h
    simp only [seqOK, List.isEmpty_iff] at hok
    exact wpAny_done hok h fuel
  | cons i rest ih =>
    intro fuel listed a w hok hf h
    cases fuel with
    | zero => simp at hf
    | succ fuel =>
      simp only [seqOK, Bool.and_eq_true, Bool.or_eq_true] at hok
      obtain ⟨h1, h2⟩ := hok
      have hf' : rest.length ≤ fuel := by simpa using hf
      rw [wpOps_cons] at h
      rcases h1 with h1 | ⟨⟨h1, h3⟩, h4⟩
      · have h1' := beq_iff_eq.1 h1
        refine wpAny_all h1' (by simp) (fun j hj => ?_)
        obtain rfl : j = i := by simpa using hj
        exact wpOp_mono (fun a' w' hh => ih fuel _ a' w' h2 hf' hh) h
      · cases ho : ops[i]? with
        | none => simp [ho] at h3
        | some o =>
          simp only [ho, Option.map_some, Option.getD_some] at h3
          obtain ⟨d, v, hd, hrun, hev⟩ := move_run (P := P) h3 a.eval
          have hQ' : ∀ c a v w, Q (.panic c) (a.put o.dst v) w → Q (.panic c) a w := by
            intro c a v w; rw [hd]; exact hQ c a d v w
          unfold wpOp at h
          simp only [ho] at h
          by_cases hw : Region.wanted o (yielded ops a.tmps) = true
          · rw [if_pos hw] at h
            have hk : wpOps P ops Q rest (a.put o.dst v) w := by
              rcases h with h | h
              · unfold Oper.wp at h
                rw [hrun w] at h
                exact h
              · have := h.1.1
                rw [hev w] at this
                simp at this
            exact wpAny_take ho hs h4 h1 (fun c a w => hQ' c a v w) (.inl ⟨hw, hrun⟩) (ih fuel _ _ w h2 hf' hk)
          · rw [if_neg hw] at h
            exact wpAny_take ho hs h4 h1 (fun c a w => hQ' c a undef w) (.inr ⟨by simpa using hw, rfl⟩) (ih fuel _ _ w h2 hf' h)

/-- From the k-th operation on. -/
theorem wpAny_tail (k : Nat) {l : List Oper} (hs : Region.noSelect l.toArray = true) (hQ : ∀ c a d v w, Q (.panic c) (a.put (some d) v) w → Q (.panic c) a w) {fuel : Nat} {listed : Array Bool} {a : Act} {w : World}
    (hok : seqOK md l.toArray listed (List.range' k (l.length - k)) = true) (hf : l.length - k ≤ fuel) (h : wpList P l.toArray Q (l.drop k) a w) : wpAny P md l.toArray Q fuel listed a w := by
  refine wpAny_seq hs hQ _ fuel listed a w hok (by simpa using hf) ?_
  have e := wpOps_eq_wpList (P := P) (ops := l.toArray) (Q := Q) (l.drop k) k (fun j => by simp)
  rw [List.length_drop] at e
  rw [e]; exact h

/-- A plan: what is a plain move and free goes first; else the one operation that may come up. (For finding plans; nothing rests on it.) -/
def planOf (md : Region.Mode) (ops : Array Oper) : Nat → Array Bool → List Nat
  | 0, _ => []
  | fuel + 1, listed =>
    let rs := Region.ready md ops listed
    match (rs.find? fun i => ((ops[i]?).map plainMove).getD false && Region.free md ops listed i), rs with
    | some i, _ => i :: planOf md ops fuel (listed.setIfInBounds i true)
    | none, i :: _ => i :: planOf md ops fuel (listed.setIfInBounds i true)
    | none, [] => []

/-! ### The same check by masks: cheap for the kernel. -/
def edgeMask (md : Region.Mode) (o : Oper) : Nat := (o.after.toList.filter (Region.binds md)).foldr (fun e s => 2 ^ e.on ||| s) 0

def readyM (mask : Nat) : List Nat → Nat → List Nat
  | [], _ => []
  | em :: t, j => if !mask.testBit j && (em &&& mask == em) then j :: readyM mask t (j + 1) else readyM mask t (j + 1)

def arrM (n mask : Nat) : Array Bool := ((List.range n).map fun i => mask.testBit i).toArray

def seqM (md : Region.Mode) (l : List Oper) (ems : List Nat) : Nat → List Nat → Bool
  | mask, [] => (readyM mask ems 0).isEmpty
  | mask, i :: rest =>
    ((readyM mask ems 0 == [i]) || ((readyM mask ems 0).contains i && ((l[i]?).map plainMove).getD false && Region.free md l.toArray (arrM l.length mask) i)) &&
      seqM md l ems (mask ||| 2 ^ i) rest

theorem mask_sub (mask : Nat) : ∀ (es : List Edge), ((es.foldr (fun e s => 2 ^ e.on ||| s) 0) &&& mask = es.foldr (fun e s => 2 ^ e.on ||| s) 0) ↔ ∀ e ∈ es, mask.testBit e.on = true := by
  intro es
  constructor
  · intro h e he
    have hb : (es.foldr (fun (e : Edge) s => 2 ^ e.on ||| s) 0).testBit e.on = true := by
      clear h
      induction es with
      | nil => cases he
      | cons x t ih =>
        simp only [List.foldr_cons, Nat.testBit_or, Bool.or_eq_true]
        rcases List.mem_cons.1 he with rfl | h
        · exact .inl (by simp)
        · exact .inr (ih h)
    rw [← h, Nat.testBit_and, Bool.and_eq_true] at hb
    exact hb.2
  · intro h
    apply Nat.eq_of_testBit_eq
    intro k
    rw [Nat.testBit_and]
    cases hk : (es.foldr (fun (e : Edge) s => 2 ^ e.on ||| s) 0).testBit k
    · simp
    · have : ∃ e ∈ es, e.on = k := by
        clear h
        induction es with
        | nil => simp at hk
        | cons x t ih =>
          simp only [List.foldr_cons, Nat.testBit_or, Bool.or_eq_true, Nat.testBit_two_pow, decide_eq_true_eq] at hk
          rcases hk with hk | hk
          · exact ⟨x, by simp, hk⟩
          · obtain ⟨e, he, hek⟩ := ih hk; exact ⟨e, by simp [he], hek⟩
      obtain ⟨e, he, rfl⟩ := this
      simp [h e he]

theorem readyM_eq (md : Region.Mode) (mask : Nat) : ∀ (l : List Oper) (j : Nat), readyM mask (l.map (edgeMask md)) j =
    (List.range' j l.length).filter (fun i => !mask.testBit i && ((l[i - j]?).map (·.after.all fun e => !Region.binds md e || mask.testBit e.on)).getD false) := by
  intro l
  induction l with
  | nil => intro j; simp [readyM]
  | cons o t ih =>
    intro j
    have hc : (edgeMask md o &&& mask == edgeMask md o) = o.after.all (fun e => !Region.binds md e || mask.testBit e.on) := by
      rw [Bool.eq_iff_iff, beq_iff_eq, edgeMask, mask_sub, Array.all_eq_true_iff_forall_mem]
      simp only [List.mem_filter, Array.mem_toList_iff, Bool.or_eq_true, Bool.not_eq_true']
      constructor
      · intro h e he
        cases hb : Region.binds md e
        · exact .inl rfl
        · exact .inr (h e ⟨he, hb⟩)
      · intro h e he
        exact (h e he.1).resolve_left (by simp [he.2])
    have hrest : (List.range' (j + 1) t.length).filter (fun i => !mask.testBit i && (((o :: t)[i - j]?).map (·.after.all fun e => !Region.binds md e || mask.testBit e.on)).getD false) =
        (List.range' (j + 1) t.length).filter (fun i => !mask.testBit i && ((t[i - (j + 1)]?).map (·.after.all fun e => !Region.binds md e || mask.testBit e.on)).getD false) := by
      apply List.filter_congr
      intro i hi
      have : j + 1 ≤ i := (List.mem_range'_1.1 hi).1
      rw [show i - j = (i - (j + 1)) + 1 from by omega, List.getElem?_cons_succ]
    simp only [List.map_cons, readyM, List.length_cons, List.range'_succ, List.filter_cons, hc, ih, hrest, Nat.sub_self, List.getElem?_cons_zero, Option.map_some, Option.getD_some]

theorem arrM_getD (n mask i : Nat) (d : Bool) (h : i < n) : (arrM n mask).getD i d = mask.testBit i := by
  simp [arrM, Array.getD, h]
theorem arrM_getD_out (n mask i : Nat) (d : Bool) (h : ¬ i < n) : (arrM n mask).getD i d = d := by
  simp [arrM, Array.getD, h]
theorem arrM_set (n mask i : Nat) (_ : i < n) : (arrM n mask).setIfInBounds i true = arrM n (mask ||| 2 ^ i) := by
  apply Array.ext
  · simp [arrM]
  · intro k h1 h2
    simp [arrM] at h1 h2
    simp only [arrM, Nat.testBit_or, Nat.testBit_two_pow]
    by_cases hk : i = k
    · subst hk; simp
    · simp [hk]

/-- Every edge points into the region. -/
def edgesIn (l : List Oper) : Bool := l.all fun o => o.after.all fun e => decide (e.on < l.length)

theorem ready_arrM (l : List Oper) (mask : Nat) (hin : edgesIn l = true) : Region.ready md l.toArray (arrM l.length mask) = readyM mask (l.map (edgeMask md)) 0 := by
  rw [readyM_eq, Region.ready, List.range_eq_range']
  simp only [List.size_toArray]
  apply List.filter_congr
  intro i hi
  have hlt : i < l.length := by have := (List.mem_range'_1.1 hi).2; omega
  rw [arrM_getD _ _ _ _ hlt]
  have e1 : l.toArray[i]? = some l[i] := by simp [hlt]
  have e2 : l[i - 0]? = some l[i] := by simp [hlt]
  rw [e1, e2]
  simp only [Option.map_some, Option.getD_some]
  congr 1
  rw [Bool.eq_iff_iff, Array.all_eq_true_iff_forall_mem, Array.all_eq_true_iff_forall_mem]
  have hin' : ∀ e ∈ l[i].after, e.on < l.length := by
    intro e he
    have h1 := List.all_eq_true.1 hin l[i] (List.getElem_mem hlt)
    have h2 := Array.all_eq_true_iff_forall_mem.1 h1 e he
    simpa using h2
  constructor
  · intro h e he; have := h e he; rwa [arrM_getD _ _ _ _ (hin' e he)] at this
  · intro h e he; rw [arrM_getD _ _ _ _ (hin' e he)]; exact h e he

theorem seqM_ok (l : List Oper) (hin : edgesIn l = true) : ∀ (plan : List Nat) (mask : Nat), (plan.all fun i => decide (i < l.length)) = true → seqM md l (l.map (edgeMask md)) mask plan = true → seqOK md l.toArray (arrM l.length mask) plan = true := by
  intro plan
  induction plan with
  | nil => intro mask _ h; simpa [seqM, seqOK, ready_arrM l mask hin] using h
  | cons i rest ih =>
    intro mask hall h
    simp only [List.all_cons, Bool.and_eq_true, decide_eq_true_eq] at hall
    simp only [seqM, Bool.and_eq_true] at h
    simp only [seqOK, Bool.and_eq_true, ready_arrM l mask hin]
    refine ⟨?_, by rw [arrM_set _ _ _ hall.1]; exact ih _ hall.2 h.2⟩
    have e1 : l.toArray[i]? = l[i]? := by simp
    rw [e1]; exact h.1

/-! ### Neighbours changed in their order. -/
def swapAt {α : Type} : Nat → List α → List α
  | 0, x :: y :: t => y :: x :: t
  | k + 1, x :: t => x :: swapAt k t
  | _, l => l
def swaps {α : Type} : List Nat → List α → List α
  | [], l => l
  | k :: ks, l => swaps ks (swapAt k l)
theorem swapAt_map {α β : Type} (f : α → β) : ∀ (k : Nat) (l : List α), swapAt k (l.map f) = (swapAt k l).map f := by
  intro k
  induction k with
  | zero => intro l; match l with | [] => rfl | [_] => rfl | _ :: _ :: _ => rfl
  | succ k ih => intro l; cases l with
    | nil => rfl
    | cons x t => simp only [List.map_cons, swapAt, ih]
theorem swaps_map {α β : Type} (f : α → β) : ∀ (ks : List Nat) (l : List α), swaps ks (l.map f) = (swaps ks l).map f := by
  intro ks
  induction ks with
  | nil => intro l; rfl
  | cons k ks ih => intro l; rw [swaps, swapAt_map, ih]; rfl

theorem wpOps_map (l : List Oper) : ∀ (plan : List Nat) (a : Act) (w : World), (plan.all fun i => decide (i < l.length)) = true → wpList P l.toArray Q (plan.map fun i => l.getD i default) a w → wpOps P l.toArray Q plan a w := by
  intro plan
  induction plan with
  | nil => intro a w _ h; exact h
  | cons i rest ih =>
    intro a w hall h
    simp only [List.all_cons, Bool.and_eq_true, decide_eq_true_eq] at hall
    have hi : l.getD i default = l[i] := by simp [List.getD, hall.1]
    rw [List.map_cons, hi] at h
    have hi' : l.toArray[i]? = some l[i] := by simp [hall.1]
    rw [wpOps_cons, wpOp]
    simp only [hi']
    simp only [wpList] at h
    split
    · rename_i hw
      rw [if_pos hw] at h
      exact h.imp (Oper.wp_mono fun a' w' hh => ih a' w' hall.2 hh) id
    · rename_i hw
      rw [if_neg hw] at h
      exact ih _ _ hall.2 h

theorem drop_eq_map (l : List Oper) (k : Nat) : l.drop k = (List.range' k (l.length - k)).map (fun i => l.getD i default) := by
  apply List.ext_getElem
  · simp
  · intro i h1 h2
    simp at h1 h2
    have : k + i < l.length := by omega
    simp [List.getD, this]

/-- From the k-th operation on, neighbours changed as 'ks' says; 'mask': what is done already. -/
theorem wpAny_swaps (k mask : Nat) (ks : List Nat) {l : List Oper} (hs : Region.noSelect l.toArray = true) (hin : edgesIn l = true) (hQ : ∀ c a d v w, Q (.panic c) (a.put (some d) v) w → Q (.panic c) a w) {fuel : Nat} {listed : Array Bool} {a : Act} {w : World}
    (hl : listed = arrM l.length mask) (hall : ((swaps ks (List.range' k (l.length - k))).all fun i => decide (i < l.length)) = true) (hf : (swaps ks (List.range' k (l.length - k))).length ≤ fuel)
    (hok : seqM md l (l.map (edgeMask md)) mask (swaps ks (List.range' k (l.length - k))) = true) (h : wpList P l.toArray Q (swaps ks (l.drop k)) a w) : wpAny P md l.toArray Q fuel listed a w := by
  subst hl
  refine wpAny_seq hs hQ _ fuel _ a w (seqM_ok l hin _ _ hall hok) hf (wpOps_map l _ a w hall ?_)
  rw [← swaps_map, ← drop_eq_map]; exact h

theorem arrM_zero (n : Nat) : Array.replicate n false = arrM n 0 := by
  apply Array.ext
  · simp [arrM]
  · intro i h1 h2; simp [arrM]

/-- A whole region. -/
theorem region_swaps {id : Nat} (ks : List Nat) {l : List Oper} {a : Act} {w : World} (hm : P.follows .mixedOrders = true) (hs : Region.noSelect l.toArray = true) (hin : edgesIn l = true) (hQ : ∀ c a d v w, Q (.panic c) (a.put (some d) v) w → Q (.panic c) a w)
    (hall : ((swaps ks (List.range' 0 l.length)).all fun i => decide (i < l.length)) = true) (hf : (swaps ks (List.range' 0 l.length)).length ≤ l.length)
    (hok : seqM .any l (l.map (edgeMask .any)) 0 (swaps ks (List.range' 0 l.length)) = true) (h : wpList P l.toArray Q (swaps ks l) a w.drew) : (Code.region id l.toArray true).wp P Q a w := by
  refine wp_region_any hm ?_
  refine wpAny_swaps 0 0 ks hs hin hQ (by rw [← arrM_zero]; simp) (by simpa using hall) (by simpa using hf) (by simpa using hok) (by simpa using h)

/-! ### A part of a region: a prefix of the plan; the rest is left as it was. -/
def partQ (R : Act → World → Prop) (Q : Exit → Act → World → Prop) : Exit → Act → World → Prop
  | .normal, a, w => R a w
  | e, a, w => Q e a w

theorem wp_partQ {R : Act → World → Prop} {o : Oper} {K : Act → World → Prop} {a : Act} {w : World} (h : o.wp P a w K (partQ R Q)) : o.wp P a w K Q := by
  unfold Oper.wp at *
  generalize (execOp a.eval o).run P w = r at *
  exact h

theorem wpOp_partQ {R : Act → World → Prop} {i : Nat} {K : Act → World → Prop} {a : Act} {w : World} (h : wpOp P ops (partQ R Q) i K a w) : wpOp P ops Q i K a w := by
  unfold wpOp at *
  split
  · rename_i ho; simpa [ho] using h
  · rename_i o ho
    simp only [ho] at h
    split
    · rename_i hw
      rw [if_pos hw] at h
      rcases h with h | ⟨h, h2⟩
      · exact .inl (wp_partQ h)
      · exact .inr ⟨h, h2⟩
    · rename_i hw
      rw [if_neg hw] at h
      exact h

def seqOKp (md : Region.Mode) (ops : Array Oper) : Array Bool → List Nat → Bool
  | _, [] => true
  | listed, i :: rest =>
    ((Region.ready md ops listed == [i]) || ((Region.ready md ops listed).contains i && ((ops[i]?).map plainMove).getD false && Region.free md ops listed i)) &&
      seqOKp md ops (listed.setIfInBounds i true) rest

theorem wpAny_part (hs : Region.noSelect ops = true) (hQ : ∀ c a d v w, Q (.panic c) (a.put (some d) v) w → Q (.panic c) a w) {R : Act → World → Prop} :
    ∀ (plan : List Nat) (fuel : Nat) (listed : Array Bool) (a : Act) (w : World), seqOKp md ops listed plan = true →
      (∀ a w, R a w → wpAny P md ops Q fuel (plan.foldl (fun s i => s.setIfInBounds i true) listed) a w) → wpOps P ops (partQ R Q) plan a w → wpAny P md ops Q (fuel + plan.length) listed a w := by
  intro plan
  induction plan with
  | nil => intro fuel listed a w _ hR h; exact hR a w h
  | cons i rest ih =>
    intro fuel listed a w hok hR h
    simp only [seqOKp, Bool.and_eq_true, Bool.or_eq_true] at hok
    obtain ⟨h1, h2⟩ := hok
    rw [List.length_cons, show fuel + (rest.length + 1) = (fuel + rest.length) + 1 from by omega]
    rw [wpOps_cons] at h
    rcases h1 with h1 | ⟨⟨h1, h3⟩, h4⟩
    · have h1' := beq_iff_eq.1 h1
      refine wpAny_all h1' (by simp) (fun j hj => ?_)
      obtain rfl : j = i := by simpa using hj
      exact wpOp_mono (fun a' w' hh => ih fuel _ a' w' h2 hR hh) (wpOp_partQ h)
    · cases ho : ops[i]? with
      | none => simp [ho] at h3
      | some o =>
        simp only [ho, Option.map_some, Option.getD_some] at h3
        obtain ⟨d, v, hd, hrun, hev⟩ := move_run (P := P) h3 a.eval
        have hQ' : ∀ c a v w, Q (.panic c) (a.put o.dst v) w → Q (.panic c) a w := by
          intro c a v w; rw [hd]; exact hQ c a d v w
        unfold wpOp at h
        simp only [ho] at h
        by_cases hw : Region.wanted o (yielded ops a.tmps) = true
        · rw [if_pos hw] at h
          have hk : wpOps P ops (partQ R Q) rest (a.put o.dst v) w := by
            rcases h with h | h
            · unfold Oper.wp at h
              rw [hrun w] at h
              exact h
            · have := h.1.1
              rw [hev w] at this
              simp at this
          exact wpAny_take ho hs h4 h1 (fun c a w => hQ' c a v w) (.inl ⟨hw, hrun⟩) (ih fuel _ _ w h2 hR hk)
        · rw [if_neg hw] at h
          exact wpAny_take ho hs h4 h1 (fun c a w => hQ' c a undef w) (.inr ⟨by simpa using hw, rfl⟩) (ih fuel _ _ w h2 hR h)

def seqMp (md : Region.Mode) (l : List Oper) (ems : List Nat) : Nat → List Nat → Bool
  | _, [] => true
  | mask, i :: rest =>
    ((readyM mask ems 0 == [i]) || ((readyM mask ems 0).contains i && ((l[i]?).map plainMove).getD false && Region.free md l.toArray (arrM l.length mask) i)) &&
      seqMp md l ems (mask ||| 2 ^ i) rest

theorem seqMp_ok (l : List Oper) (hin : edgesIn l = true) : ∀ (plan : List Nat) (mask : Nat), (plan.all fun i => decide (i < l.length)) = true → seqMp md l (l.map (edgeMask md)) mask plan = true → seqOKp md l.toArray (arrM l.length mask) plan = true := by
  intro plan
  induction plan with
  | nil => intro mask _ h; rfl
  | cons i rest ih =>
    intro mask hall h
    simp only [List.all_cons, Bool.and_eq_true, decide_eq_true_eq] at hall
    simp only [seqMp, Bool.and_eq_true] at h
    simp only [seqOKp, Bool.and_eq_true, ready_arrM l mask hin]
    refine ⟨?_, by rw [arrM_set _ _ _ hall.1]; exact ih _ hall.2 h.2⟩
    have e1 : l.toArray[i]? = l[i]? := by simp
    rw [e1]; exact h.1

theorem fold_arrM (n : Nat) : ∀ (plan : List Nat) (mask : Nat), (plan.all fun i => decide (i < n)) = true → plan.foldl (fun s i => s.setIfInBounds i true) (arrM n mask) = arrM n (plan.foldl (fun s i => s ||| 2 ^ i) mask) := by
  intro plan
  induction plan with
  | nil => intro mask _; rfl
  | cons i rest ih =>
    intro mask hall
    simp only [List.all_cons, Bool.and_eq_true, decide_eq_true_eq] at hall
    rw [List.foldl_cons, List.foldl_cons, arrM_set _ _ _ hall.1]
    exact ih _ hall.2

/-- 'plan' from 'mask' on; then the rest (of 'mask2') as it stands. -/
theorem wpAny_plan (mask : Nat) (plan : List Nat) (mask2 fuel2 : Nat) {l : List Oper} (hs : Region.noSelect l.toArray = true) (hin : edgesIn l = true) (hQ : ∀ c a d v w, Q (.panic c) (a.put (some d) v) w → Q (.panic c) a w) {fuel : Nat} {listed : Array Bool} {a : Act} {w : World} {R : Act → World → Prop}
    (hl : listed = arrM l.length mask) (hall : (plan.all fun i => decide (i < l.length)) = true) (hf : fuel = fuel2 + plan.length) (hm : plan.foldl (fun s i => s ||| 2 ^ i) mask = mask2)
    (hok : seqMp md l (l.map (edgeMask md)) mask plan = true) (h : wpList P l.toArray (partQ R Q) (plan.map fun i => l.getD i default) a w)
    (hR : ∀ a w, R a w → wpAny P md l.toArray Q fuel2 (arrM l.length mask2) a w) : wpAny P md l.toArray Q fuel listed a w := by
  subst hl hf hm
  refine wpAny_part hs hQ (R := R) plan fuel2 _ a w (seqMp_ok l hin _ _ hall hok) (fun a w h => ?_) (wpOps_map l _ a w hall h)
  rw [fold_arrM _ _ _ hall]; exact hR a w h

/-- 'plan' from 'mask' on, to the end. -/
theorem wpAny_planEnd (mask : Nat) (plan : List Nat) {l : List Oper} (hs : Region.noSelect l.toArray = true) (hin : edgesIn l = true) (hQ : ∀ c a d v w, Q (.panic c) (a.put (some d) v) w → Q (.panic c) a w) {fuel : Nat} {listed : Array Bool} {a : Act} {w : World}
    (hl : listed = arrM l.length mask) (hall : (plan.all fun i => decide (i < l.length)) = true) (hf : plan.length ≤ fuel)
    (hok : seqM md l (l.map (edgeMask md)) mask plan = true) (h : wpList P l.toArray Q (plan.map fun i => l.getD i default) a w) : wpAny P md l.toArray Q fuel listed a w := by
  subst hl
  exact wpAny_seq hs hQ plan fuel _ a w (seqM_ok l hin _ _ hall hok) hf (wpOps_map l _ a w hall h)

/-- The one operation that may come up is not wanted. -/
theorem wpAny_idle {i : Nat} {o : Oper} {fuel : Nat} {listed : Array Bool} {a : Act} {w : World} (hr : Region.ready md ops listed = [i]) (ho : ops[i]? = some o)
    (hw : Region.wanted o (yielded ops a.tmps) = false) (h : wpAny P md ops Q fuel (listed.setIfInBounds i true) (a.put o.dst undef) w) : wpAny P md ops Q (fuel + 1) listed a w := by
  refine wpAny_all hr (by simp) (fun j hj => ?_)
  obtain rfl : j = i := by simpa using hj
  unfold wpOp
  simp only [ho, hw, Bool.false_eq_true, if_false]
  exact h
end
end Go.Proofs.Ytdfgnmdofjhnkaa
