/- What a run reads: what yields the same value in every world that has grown by new blocks alone. Nothing of the program. -/
import Derived.Test.YtmbilaepeekglaaH
import Derived.Laws.Sem
import Derived.OrdersHeld
namespace Go.Proofs.Ytmbilaepeekglaa
open Go.RowKit

/-- w' is w with more blocks. -/
structure Ext (w w' : World) : Prop where
  size : w.heap.size ≤ w'.heap.size
  block : ∀ b, b < w.heap.size → w'.heap[b]? = w.heap[b]?
theorem Ext.refl (w : World) : Ext w w := ⟨Nat.le_refl _, fun _ _ => rfl⟩
theorem Ext.trans {a b c : World} (h : Ext a b) (h' : Ext b c) : Ext a c := ⟨Nat.le_trans h.size h'.size, fun k hk => (h'.block k (Nat.lt_of_lt_of_le hk h.size)).trans (h.block k hk)⟩
theorem Ext.some {w w' : World} (h : Ext w w') {b : Nat} {o : Obj} (hb : w.heap[b]? = some o) : w'.heap[b]? = some o := by
  rw [h.block b (Array.getElem?_eq_some_iff.1 hb).1, hb]

/-- A run that reads alone. -/
def Stab (P : Program) {α : Type} (s : Sem α) : Prop := ∀ w v w1, s.run P w = .ok v w1 → ∀ w', Ext w w' → s.run P w' = .ok v w'
/-- A run that makes new blocks, and else reads alone. -/
def Grow (P : Program) {α : Type} (s : Sem α) : Prop := ∀ w v w1, s.run P w = .ok v w1 → Ext w w1
/-- A run that never yields. -/
def Dead (P : Program) {α : Type} (s : Sem α) : Prop := ∀ w v w1, s.run P w ≠ .ok v w1
section
variable {P : Program} {α β : Type}
theorem Stab.pure (v : α) : Stab P (Pure.pure v : Sem α) := by
  intro w v' w1 h w' _
  rw [Sem.run_pure] at h ⊢
  injection h with h1 _
  rw [h1]
theorem Stab.bind {s : Sem α} {f : α → Sem β} (h : Stab P s) (hf : ∀ v, Stab P (f v)) : Stab P (s >>= f) := by
  intro w v w1 hr w' he
  rw [Sem.run_bind] at hr ⊢
  cases hs : s.run P w with
  | ok a w2 =>
    rw [hs] at hr
    have e := h w a w2 hs w (Ext.refl w)
    rw [hs] at e
    injection e with _ e
    subst e
    rw [h w2 a w2 hs w' he]
    exact hf a w2 v w1 hr w' he
  | halt x w2 => rw [hs] at hr; cases hr
theorem Dead.stab {s : Sem α} (h : Dead P s) : Stab P s := fun w v w1 hr => absurd hr (h w v w1)
theorem Dead.halt (x : Halt) : Dead P (Sem.halt x : Sem α) := by intro w v w1 h; simp [Sem.run] at h
theorem Dead.bindL {s : Sem α} {f : α → Sem β} (h : Dead P s) : Dead P (s >>= f) := by
  intro w v w1 hr
  rw [Sem.run_bind] at hr
  cases hs : s.run P w with
  | ok a w2 => exact h _ _ _ hs
  | halt x w2 => rw [hs] at hr; cases hr
theorem Dead.bindR {s : Sem α} {f : α → Sem β} (h : ∀ v, Dead P (f v)) : Dead P (s >>= f) := by
  intro w v w1 hr
  rw [Sem.run_bind] at hr
  cases hs : s.run P w with
  | ok a w2 => rw [hs] at hr; exact h _ _ _ _ hr
  | halt x w2 => rw [hs] at hr; cases hr
theorem Dead.stuck (t : String) : Dead P (Go.stuck t : Sem α) := Dead.halt _
theorem Dead.unsupported (u : Unsupported) : Dead P (Go.unsupported u : Sem α) := Dead.halt _
theorem Dead.goPanic (v : Value) : Dead P (Go.goPanic v : Sem α) := Dead.halt _
theorem Dead.runtimePanic (e : RuntimeError) : Dead P (Go.runtimePanic e : Sem α) := by
  unfold Go.runtimePanic
  refine Dead.bindR fun p => ?_
  cases e <;> dsimp only
  case typeAssertion => exact Dead.bindR fun _ => Dead.bindR fun _ => Dead.goPanic _
  case panicNil => exact Dead.bindR fun _ => Dead.bindR fun _ => Dead.goPanic _
  all_goals exact Dead.goPanic _
theorem Dead.boundsPanic (k : IntKind) (x y : Int) (c : BoundsCode) : Dead P (Go.boundsPanic k x y c : Sem α) := by
  unfold Go.boundsPanic
  dsimp only
  split <;> exact Dead.bindR fun _ => Dead.runtimePanic _
theorem Stab.program : Stab P Go.program := by
  intro w v w1 h w' _
  simp only [Go.program, Sem.run] at h ⊢
  injection h with h1 _
  rw [h1]

theorem seen_ext {w w' : World} (he : Ext w w') {at_ k : Addr} {u : TypeId} {b : Bool} {r : Array Value × TypeId × (Nat × Nat) × Nat × Value × List (Nat × Nat × List UInt8)} (h : w.seen P at_ u k b = .ok r) : w'.seen P at_ u k b = .ok r := by
  unfold World.seen at h ⊢
  cases hb : w.heap[at_.block]? with
  | none =>
    exfalso
    revert h
    rw [hb]
    simp only [bind, Except.bind]
    repeat' split
    all_goals simp
  | some o =>
    rw [he.some hb]
    rw [hb] at h
    exact h
theorem farLoad_ext {w w' : World} (he : Ext w w') {a : Addr} {b : Bool} {r : Value × List Addr} (h : w.farLoad P a b = .ok r) : w'.farLoad P a b = .ok r := by
  unfold World.farLoad at h ⊢
  cases hb : w.heap[a.block]? with
  | none => rw [hb] at h; cases h
  | some o =>
    rw [he.some hb]
    rw [hb] at h
    cases o <;> dsimp only at h ⊢ <;> try (cases h; done)
    case view at_ u =>
      cases hv : w.viewLoad P at_ u a b with
      | error e => rw [hv] at h; cases h
      | ok x =>
        rw [hv] at h
        have e2 : w'.viewLoad P at_ u a b = .ok x := by
          unfold World.viewLoad at hv ⊢
          cases hs : w.seen P at_ u a b with
          | error e => rw [hs] at hv; cases hv
          | ok y => rw [seen_ext he hs]; rw [hs] at hv; exact hv
        rw [e2]; exact h
theorem Stab.load (a : Addr) : Stab P (Go.load a) := by
  intro w v w1 h w' he
  unfold Go.load at h ⊢
  simp only [Sem.run] at h ⊢
  cases hc : w.cell? a with
  | some x =>
    rw [hc] at h
    have : w'.cell? a = some x := by
      unfold World.cell? at hc ⊢
      cases hb : w.heap[a.block]? with
      | none => rw [hb] at hc; cases hc
      | some o => rw [he.some hb]; rw [hb] at hc; exact hc
    rw [this]
    dsimp only at h ⊢
    injection h with h1 _
    rw [h1]
  | none =>
    rw [hc] at h
    dsimp only at h
    cases hf : w.farLoad P a (Mode.plain == Mode.atomic) with
    | error e => rw [hf] at h; cases h
    | ok y =>
      rw [hf] at h
      have hc' : w'.cell? a = none := by
        unfold World.cell? at hc ⊢
        unfold World.farLoad at hf
        cases hb : w.heap[a.block]? with
        | none => rw [hb] at hf; cases hf
        | some o => rw [he.some hb]; rw [hb] at hc; exact hc
      rw [hc', farLoad_ext he hf]
      dsimp only at h ⊢
      injection h with h1 _
      rw [h1]
theorem Stab.getObj (r : Nat) : Stab P (Go.getObj r) := by
  intro w v w1 h w' he
  unfold Go.getObj at h ⊢
  simp only [Sem.run] at h ⊢
  cases hb : w.heap[r]? with
  | none => rw [hb] at h; cases h
  | some o =>
    rw [he.some hb]
    rw [hb] at h
    cases o <;> dsimp only at h ⊢ <;> first | (cases h; done) | (injection h with h1 _; rw [h1])
theorem Stab.shape {r : Nat} {f : Option (TypeId × Nat) → Sem β} (hn : ∀ w v w1, w.heap[r]? = none → (f none).run P w ≠ .ok v w1) (hf : ∀ x, Stab P (f x)) : Stab P (Go.shape r >>= f) := by
  intro w v w1 h w' he
  rw [Sem.run_bind] at h ⊢
  simp only [Go.shape, Sem.run, Result.andThen_ok] at h ⊢
  cases hb : w.heap[r]? with
  | none =>
    have : w.shape? r = none := by unfold World.shape?; rw [hb]
    rw [this] at h
    exact absurd h (hn _ _ _ hb)
  | some o =>
    have : w'.shape? r = w.shape? r := by unfold World.shape?; rw [hb, he.some hb]
    rw [this]
    exact hf _ w v w1 h w' he
theorem Stab.ite {c : Prop} [Decidable c] {s t : Sem α} (hs : c → Stab P s) (ht : ¬ c → Stab P t) : Stab P (if c then s else t) := by
  split
  · exact hs ‹_›
  · exact ht ‹_›
theorem getObj_none {r : Nat} {f : Obj → Sem β} {w : World} (hb : w.heap[r]? = none) (v : β) (w1 : World) : (Go.getObj r >>= f).run P w ≠ .ok v w1 := by
  rw [Sem.run_bind]
  simp only [Go.getObj, Sem.run, hb]
  simp
theorem Stab.viewAt (r : Nat) : Stab P (Go.viewAt r) := by
  unfold Go.viewAt
  refine Stab.shape (fun w v w1 hb => ?_) fun x => ?_
  · simp only [Option.isSome_none, Bool.false_eq_true, if_false]
    exact getObj_none hb _ _
  · split
    · exact Stab.pure _
    · refine Stab.bind (Stab.getObj _) fun o => ?_
      cases o <;> exact Stab.pure _
theorem Stab.typeInfo (t : TypeId) : Stab P (Go.typeInfo t) := by
  unfold Go.typeInfo
  refine Stab.bind Stab.program fun p => ?_
  split
  · exact Stab.pure _
  · exact (Dead.stuck _).stab
theorem Stab.underlying (t : TypeId) : Stab P (Go.underlying t) := by
  unfold Go.underlying
  refine Stab.bind Stab.program fun p => ?_
  split
  · exact Stab.pure _
  · exact (Dead.stuck _).stab
theorem Stab.sizeOf (t : TypeId) : Stab P (Go.sizeOf t) := Stab.bind (Stab.typeInfo t) fun _ => Stab.pure _
theorem Stab.zeroValue (t : TypeId) : Stab P (Go.zeroValue t) := by
  unfold Go.zeroValue
  refine Stab.bind (Stab.typeInfo t) fun i => ?_
  split
  · exact Stab.pure _
  · exact (Dead.unsupported _).stab
theorem Stab.isAgg (t : TypeId) : Stab P (Go.isAgg t) := by
  unfold Go.isAgg
  refine Stab.bind (Stab.underlying t) fun d => ?_
  split <;> exact Stab.pure _
theorem Stab.loadCellsFrom (a : Addr) : ∀ (n i : Nat) (acc : Array Value), Stab P (Go.loadCellsFrom a i n acc) := by
  intro n
  induction n with
  | zero => intro i acc; exact Stab.pure _
  | succ n ih => intro i acc; exact Stab.bind (Stab.load _) fun v => ih _ _
theorem Stab.loadVar (t : TypeId) (a : Addr) : Stab P (Go.loadVar t a) := by
  unfold Go.loadVar
  refine Stab.bind (Stab.isAgg t) fun b => ?_
  split
  · exact Stab.bind (Stab.sizeOf t) fun n => Stab.bind (Stab.loadCellsFrom a n 0 #[]) fun _ => Stab.pure _
  · exact Stab.load a
theorem Stab.sureAddr (v : Value) : Stab P (Instr.sureAddr v) := by
  unfold Instr.sureAddr
  split
  · exact Stab.pure _
  · exact (Dead.stuck _).stab
theorem Stab.asIntOf (v : Value) : Stab P (Go.asIntOf v) := by
  unfold Go.asIntOf
  split
  · exact Stab.pure _
  · exact (Dead.unsupported _).stab
  · exact (Dead.stuck _).stab
theorem Stab.asBool (v : Value) : Stab P (Go.asBool v) := by
  unfold Go.asBool
  split
  · exact Stab.pure _
  · exact (Dead.stuck _).stab
theorem Stab.loadAt (t : TypeId) (v : Value) : Stab P (Instr.loadAt t v) := Stab.bind (Stab.sureAddr v) fun a => Stab.loadVar t a
theorem Stab.indexAt (t : TypeId) (x ix : Value) : Stab P (Instr.indexAt t x ix) := by
  unfold Instr.indexAt
  try dsimp only
  repeat' first | exact Stab.pure _ | exact (Dead.stuck _).stab | exact (Dead.unsupported _).stab | exact (Dead.boundsPanic _ _ _ _).stab | exact (Dead.runtimePanic _).stab | exact (Dead.goPanic _).stab | exact Stab.underlying _ | exact Stab.sizeOf _ | exact Stab.typeInfo _ | exact Stab.zeroValue _ | exact Stab.isAgg _ | exact Stab.sureAddr _ | exact Stab.asIntOf _ | exact Stab.asBool _ | exact Stab.loadVar _ _ | exact Stab.load _ | exact Stab.getObj _ | exact Stab.viewAt _ | exact Stab.program | (refine Stab.bind ?_ fun _ => ?_) | split
theorem Stab.sliceBound (x : Value) (y : Nat) (c : BoundsCode) : Stab P (Instr.sliceBound x y c) := by
  unfold Instr.sliceBound
  try dsimp only
  repeat' first | exact Stab.pure _ | exact (Dead.stuck _).stab | exact (Dead.unsupported _).stab | exact (Dead.boundsPanic _ _ _ _).stab | exact (Dead.runtimePanic _).stab | exact (Dead.goPanic _).stab | exact Stab.underlying _ | exact Stab.sizeOf _ | exact Stab.typeInfo _ | exact Stab.zeroValue _ | exact Stab.isAgg _ | exact Stab.sureAddr _ | exact Stab.asIntOf _ | exact Stab.asBool _ | exact Stab.loadVar _ _ | exact Stab.load _ | exact Stab.getObj _ | exact Stab.viewAt _ | exact Stab.program | (refine Stab.bind ?_ fun _ => ?_) | split
theorem Stab.sliceBounds (b : Bool) (n c : Nat) (lo hi mx : Option Value) : Stab P (Instr.sliceBounds b n c lo hi mx) := by
  unfold Instr.sliceBounds
  try dsimp only
  repeat' first | exact Stab.sliceBound _ _ _ | exact Stab.pure _ | exact (Dead.stuck _).stab | exact (Dead.unsupported _).stab | exact (Dead.boundsPanic _ _ _ _).stab | exact (Dead.runtimePanic _).stab | exact (Dead.goPanic _).stab | exact Stab.underlying _ | exact Stab.sizeOf _ | exact Stab.typeInfo _ | exact Stab.zeroValue _ | exact Stab.isAgg _ | exact Stab.sureAddr _ | exact Stab.asIntOf _ | exact Stab.asBool _ | exact Stab.loadVar _ _ | exact Stab.load _ | exact Stab.getObj _ | exact Stab.viewAt _ | exact Stab.program | (refine Stab.bind ?_ fun _ => ?_) | split
theorem Stab.part (t : TypeId) (cs : Array Value) (off : Nat) : Stab P (Go.part t cs off) := by
  unfold Go.part
  try dsimp only
  repeat' first | exact Stab.pure _ | exact (Dead.stuck _).stab | exact (Dead.unsupported _).stab | exact (Dead.boundsPanic _ _ _ _).stab | exact (Dead.runtimePanic _).stab | exact (Dead.goPanic _).stab | exact Stab.underlying _ | exact Stab.sizeOf _ | exact Stab.typeInfo _ | exact Stab.zeroValue _ | exact Stab.isAgg _ | exact Stab.sureAddr _ | exact Stab.asIntOf _ | exact Stab.asBool _ | exact Stab.loadVar _ _ | exact Stab.load _ | exact Stab.getObj _ | exact Stab.viewAt _ | exact Stab.program | (refine Stab.bind ?_ fun _ => ?_) | split
theorem Stab.asAgg (v : Value) : Stab P (Go.asAgg v) := by
  unfold Go.asAgg
  try dsimp only
  repeat' first | exact Stab.pure _ | exact (Dead.stuck _).stab | exact (Dead.unsupported _).stab | exact (Dead.boundsPanic _ _ _ _).stab | exact (Dead.runtimePanic _).stab | exact (Dead.goPanic _).stab | exact Stab.underlying _ | exact Stab.sizeOf _ | exact Stab.typeInfo _ | exact Stab.zeroValue _ | exact Stab.isAgg _ | exact Stab.sureAddr _ | exact Stab.asIntOf _ | exact Stab.asBool _ | exact Stab.loadVar _ _ | exact Stab.load _ | exact Stab.getObj _ | exact Stab.viewAt _ | exact Stab.program | (refine Stab.bind ?_ fun _ => ?_) | split
theorem Stab.asAddr (v : Value) : Stab P (Go.asAddr v) := by
  unfold Go.asAddr
  try dsimp only
  repeat' first | exact Stab.pure _ | exact (Dead.stuck _).stab | exact (Dead.unsupported _).stab | exact (Dead.boundsPanic _ _ _ _).stab | exact (Dead.runtimePanic _).stab | exact (Dead.goPanic _).stab | exact Stab.underlying _ | exact Stab.sizeOf _ | exact Stab.typeInfo _ | exact Stab.zeroValue _ | exact Stab.isAgg _ | exact Stab.sureAddr _ | exact Stab.asIntOf _ | exact Stab.asBool _ | exact Stab.loadVar _ _ | exact Stab.load _ | exact Stab.getObj _ | exact Stab.viewAt _ | exact Stab.program | (refine Stab.bind ?_ fun _ => ?_) | split
theorem Stab.slice (t : TypeId) (x : Value) (lo hi mx : Option Value) : Stab P (Instr.slice t x lo hi mx) := by
  unfold Instr.slice
  try dsimp only
  repeat' first | exact Stab.sliceBounds _ _ _ _ _ _ | exact Stab.asAddr _ | exact Stab.pure _ | exact (Dead.stuck _).stab | exact (Dead.unsupported _).stab | exact (Dead.boundsPanic _ _ _ _).stab | exact (Dead.runtimePanic _).stab | exact (Dead.goPanic _).stab | exact Stab.underlying _ | exact Stab.sizeOf _ | exact Stab.typeInfo _ | exact Stab.zeroValue _ | exact Stab.isAgg _ | exact Stab.sureAddr _ | exact Stab.asIntOf _ | exact Stab.asBool _ | exact Stab.loadVar _ _ | exact Stab.load _ | exact Stab.getObj _ | exact Stab.viewAt _ | exact Stab.program | (refine Stab.bind ?_ fun _ => ?_) | split
theorem Stab.field (t : TypeId) (x : Value) (f : Nat) : Stab P (Instr.field t x f) := by
  unfold Instr.field
  try dsimp only
  repeat' first | exact Stab.part _ _ _ | exact Stab.asAgg _ | exact Stab.pure _ | exact (Dead.stuck _).stab | exact (Dead.unsupported _).stab | exact (Dead.boundsPanic _ _ _ _).stab | exact (Dead.runtimePanic _).stab | exact (Dead.goPanic _).stab | exact Stab.underlying _ | exact Stab.sizeOf _ | exact Stab.typeInfo _ | exact Stab.zeroValue _ | exact Stab.isAgg _ | exact Stab.sureAddr _ | exact Stab.asIntOf _ | exact Stab.asBool _ | exact Stab.loadVar _ _ | exact Stab.load _ | exact Stab.getObj _ | exact Stab.viewAt _ | exact Stab.program | (refine Stab.bind ?_ fun _ => ?_) | split
theorem Stab.index (t : TypeId) (x i : Value) : Stab P (Instr.index t x i) := by
  unfold Instr.index
  try dsimp only
  repeat' first | exact Stab.part _ _ _ | exact Stab.asAgg _ | exact Stab.pure _ | exact (Dead.stuck _).stab | exact (Dead.unsupported _).stab | exact (Dead.boundsPanic _ _ _ _).stab | exact (Dead.runtimePanic _).stab | exact (Dead.goPanic _).stab | exact Stab.underlying _ | exact Stab.sizeOf _ | exact Stab.typeInfo _ | exact Stab.zeroValue _ | exact Stab.isAgg _ | exact Stab.sureAddr _ | exact Stab.asIntOf _ | exact Stab.asBool _ | exact Stab.loadVar _ _ | exact Stab.load _ | exact Stab.getObj _ | exact Stab.viewAt _ | exact Stab.program | (refine Stab.bind ?_ fun _ => ?_) | split
theorem Stab.extract (x : Value) (i : Nat) : Stab P (Instr.extract x i) := by
  unfold Instr.extract
  try dsimp only
  repeat' first | exact Stab.pure _ | exact (Dead.stuck _).stab | exact (Dead.unsupported _).stab | exact (Dead.boundsPanic _ _ _ _).stab | exact (Dead.runtimePanic _).stab | exact (Dead.goPanic _).stab | exact Stab.underlying _ | exact Stab.sizeOf _ | exact Stab.typeInfo _ | exact Stab.zeroValue _ | exact Stab.isAgg _ | exact Stab.sureAddr _ | exact Stab.asIntOf _ | exact Stab.asBool _ | exact Stab.loadVar _ _ | exact Stab.load _ | exact Stab.getObj _ | exact Stab.viewAt _ | exact Stab.program | (refine Stab.bind ?_ fun _ => ?_) | split
theorem Stab.makeInterface (t : TypeId) (x : Value) : Stab P (Instr.makeInterface t x) := by
  unfold Instr.makeInterface
  try dsimp only
  repeat' first | exact Stab.pure _ | exact (Dead.stuck _).stab | exact (Dead.unsupported _).stab | exact (Dead.boundsPanic _ _ _ _).stab | exact (Dead.runtimePanic _).stab | exact (Dead.goPanic _).stab | exact Stab.underlying _ | exact Stab.sizeOf _ | exact Stab.typeInfo _ | exact Stab.zeroValue _ | exact Stab.isAgg _ | exact Stab.sureAddr _ | exact Stab.asIntOf _ | exact Stab.asBool _ | exact Stab.loadVar _ _ | exact Stab.load _ | exact Stab.getObj _ | exact Stab.viewAt _ | exact Stab.program | (refine Stab.bind ?_ fun _ => ?_) | split
theorem Stab.intArith (op : BinOp) (k : IntKind) (x y : Int) : Stab P (Op.intArith op k x y) := by
  unfold Op.intArith
  try dsimp only
  repeat' first | exact Stab.pure _ | exact (Dead.stuck _).stab | exact (Dead.unsupported _).stab | exact (Dead.boundsPanic _ _ _ _).stab | exact (Dead.runtimePanic _).stab | exact (Dead.goPanic _).stab | exact Stab.underlying _ | exact Stab.sizeOf _ | exact Stab.typeInfo _ | exact Stab.zeroValue _ | exact Stab.isAgg _ | exact Stab.sureAddr _ | exact Stab.asIntOf _ | exact Stab.asBool _ | exact Stab.loadVar _ _ | exact Stab.load _ | exact Stab.getObj _ | exact Stab.viewAt _ | exact Stab.program | (refine Stab.bind ?_ fun _ => ?_) | split
theorem Stab.intBits (op : BinOp) (k : IntKind) (x y : Int) : Stab P (Op.intBits op k x y) := by
  unfold Op.intBits
  try dsimp only
  repeat' first | exact Stab.pure _ | exact (Dead.stuck _).stab | exact (Dead.unsupported _).stab | exact (Dead.boundsPanic _ _ _ _).stab | exact (Dead.runtimePanic _).stab | exact (Dead.goPanic _).stab | exact Stab.underlying _ | exact Stab.sizeOf _ | exact Stab.typeInfo _ | exact Stab.zeroValue _ | exact Stab.isAgg _ | exact Stab.sureAddr _ | exact Stab.asIntOf _ | exact Stab.asBool _ | exact Stab.loadVar _ _ | exact Stab.load _ | exact Stab.getObj _ | exact Stab.viewAt _ | exact Stab.program | (refine Stab.bind ?_ fun _ => ?_) | split
theorem Stab.intDiv (op : BinOp) (k : IntKind) (x y : Int) : Stab P (Op.intDiv op k x y) := by
  unfold Op.intDiv
  try dsimp only
  repeat' first | exact Stab.pure _ | exact (Dead.stuck _).stab | exact (Dead.unsupported _).stab | exact (Dead.boundsPanic _ _ _ _).stab | exact (Dead.runtimePanic _).stab | exact (Dead.goPanic _).stab | exact Stab.underlying _ | exact Stab.sizeOf _ | exact Stab.typeInfo _ | exact Stab.zeroValue _ | exact Stab.isAgg _ | exact Stab.sureAddr _ | exact Stab.asIntOf _ | exact Stab.asBool _ | exact Stab.loadVar _ _ | exact Stab.load _ | exact Stab.getObj _ | exact Stab.viewAt _ | exact Stab.program | (refine Stab.bind ?_ fun _ => ?_) | split
theorem Stab.intCmp (op : BinOp) (x y : Int) : Stab P (Op.intCmp op x y) := by
  unfold Op.intCmp
  try dsimp only
  repeat' first | exact Stab.pure _ | exact (Dead.stuck _).stab | exact (Dead.unsupported _).stab | exact (Dead.boundsPanic _ _ _ _).stab | exact (Dead.runtimePanic _).stab | exact (Dead.goPanic _).stab | exact Stab.underlying _ | exact Stab.sizeOf _ | exact Stab.typeInfo _ | exact Stab.zeroValue _ | exact Stab.isAgg _ | exact Stab.sureAddr _ | exact Stab.asIntOf _ | exact Stab.asBool _ | exact Stab.loadVar _ _ | exact Stab.load _ | exact Stab.getObj _ | exact Stab.viewAt _ | exact Stab.program | (refine Stab.bind ?_ fun _ => ?_) | split
theorem Stab.shift (op : BinOp) (k : IntKind) (x : Int) (k2 : IntKind) (y : Int) : Stab P (Op.shift op k x k2 y) := by
  unfold Op.shift
  try dsimp only
  repeat' first | exact Stab.pure _ | exact (Dead.stuck _).stab | exact (Dead.unsupported _).stab | exact (Dead.boundsPanic _ _ _ _).stab | exact (Dead.runtimePanic _).stab | exact (Dead.goPanic _).stab | exact Stab.underlying _ | exact Stab.sizeOf _ | exact Stab.typeInfo _ | exact Stab.zeroValue _ | exact Stab.isAgg _ | exact Stab.sureAddr _ | exact Stab.asIntOf _ | exact Stab.asBool _ | exact Stab.loadVar _ _ | exact Stab.load _ | exact Stab.getObj _ | exact Stab.viewAt _ | exact Stab.program | (refine Stab.bind ?_ fun _ => ?_) | split
theorem Stab.stringOp (op : BinOp) (x y : ByteArray) : Stab P (Op.stringOp op x y) := by
  unfold Op.stringOp
  try dsimp only
  repeat' first | exact Stab.pure _ | exact (Dead.stuck _).stab | exact (Dead.unsupported _).stab | exact (Dead.boundsPanic _ _ _ _).stab | exact (Dead.runtimePanic _).stab | exact (Dead.goPanic _).stab | exact Stab.underlying _ | exact Stab.sizeOf _ | exact Stab.typeInfo _ | exact Stab.zeroValue _ | exact Stab.isAgg _ | exact Stab.sureAddr _ | exact Stab.asIntOf _ | exact Stab.asBool _ | exact Stab.loadVar _ _ | exact Stab.load _ | exact Stab.getObj _ | exact Stab.viewAt _ | exact Stab.program | (refine Stab.bind ?_ fun _ => ?_) | split
theorem Stab.unary (op : UnOp) (x : Value) : Stab P (Op.unary op x) := by
  unfold Op.unary
  try dsimp only
  repeat' first | exact Stab.intArith _ _ _ _ | exact Stab.intBits _ _ _ _ | exact Stab.pure _ | exact (Dead.stuck _).stab | exact (Dead.unsupported _).stab | exact (Dead.boundsPanic _ _ _ _).stab | exact (Dead.runtimePanic _).stab | exact (Dead.goPanic _).stab | exact Stab.underlying _ | exact Stab.sizeOf _ | exact Stab.typeInfo _ | exact Stab.zeroValue _ | exact Stab.isAgg _ | exact Stab.sureAddr _ | exact Stab.asIntOf _ | exact Stab.asBool _ | exact Stab.loadVar _ _ | exact Stab.load _ | exact Stab.getObj _ | exact Stab.viewAt _ | exact Stab.program | (refine Stab.bind ?_ fun _ => ?_) | split
theorem Stab.len (ts : Array TypeId) (t : TypeId) (xs : Array Value) : Stab P (Builtin.len_ ts t xs) := by
  unfold Builtin.len_
  try dsimp only
  repeat' first | exact Stab.pure _ | exact (Dead.stuck _).stab | exact (Dead.unsupported _).stab | exact (Dead.boundsPanic _ _ _ _).stab | exact (Dead.runtimePanic _).stab | exact (Dead.goPanic _).stab | exact Stab.underlying _ | exact Stab.sizeOf _ | exact Stab.typeInfo _ | exact Stab.zeroValue _ | exact Stab.isAgg _ | exact Stab.sureAddr _ | exact Stab.asIntOf _ | exact Stab.asBool _ | exact Stab.loadVar _ _ | exact Stab.load _ | exact Stab.getObj _ | exact Stab.viewAt _ | exact Stab.program | (refine Stab.bind ?_ fun _ => ?_) | split
theorem Stab.cap (ts : Array TypeId) (t : TypeId) (xs : Array Value) : Stab P (Builtin.cap_ ts t xs) := by
  unfold Builtin.cap_
  try dsimp only
  repeat' first | exact Stab.pure _ | exact (Dead.stuck _).stab | exact (Dead.unsupported _).stab | exact (Dead.boundsPanic _ _ _ _).stab | exact (Dead.runtimePanic _).stab | exact (Dead.goPanic _).stab | exact Stab.underlying _ | exact Stab.sizeOf _ | exact Stab.typeInfo _ | exact Stab.zeroValue _ | exact Stab.isAgg _ | exact Stab.sureAddr _ | exact Stab.asIntOf _ | exact Stab.asBool _ | exact Stab.loadVar _ _ | exact Stab.load _ | exact Stab.getObj _ | exact Stab.viewAt _ | exact Stab.program | (refine Stab.bind ?_ fun _ => ?_) | split
theorem Stab.noView (a : Addr) : Stab P (Go.noView a) := by
  unfold Go.noView
  try dsimp only
  repeat' first | exact Stab.pure _ | exact (Dead.stuck _).stab | exact (Dead.unsupported _).stab | exact (Dead.boundsPanic _ _ _ _).stab | exact (Dead.runtimePanic _).stab | exact (Dead.goPanic _).stab | exact Stab.underlying _ | exact Stab.sizeOf _ | exact Stab.typeInfo _ | exact Stab.zeroValue _ | exact Stab.isAgg _ | exact Stab.sureAddr _ | exact Stab.asIntOf _ | exact Stab.asBool _ | exact Stab.loadVar _ _ | exact Stab.load _ | exact Stab.getObj _ | exact Stab.viewAt _ | exact Stab.program | (refine Stab.bind ?_ fun _ => ?_) | split
theorem Stab.sliceAt (t : TypeId) (x : Value) (lo hi mx : Option Value) : Stab P (Instr.sliceAt t x lo hi mx) := by
  unfold Instr.sliceAt
  try dsimp only
  repeat' first | exact Stab.sliceBounds _ _ _ _ _ _ | exact Stab.slice _ _ _ _ _ | exact Stab.pure _ | exact (Dead.stuck _).stab | exact (Dead.unsupported _).stab | exact (Dead.boundsPanic _ _ _ _).stab | exact (Dead.runtimePanic _).stab | exact (Dead.goPanic _).stab | exact Stab.underlying _ | exact Stab.sizeOf _ | exact Stab.typeInfo _ | exact Stab.zeroValue _ | exact Stab.isAgg _ | exact Stab.sureAddr _ | exact Stab.asIntOf _ | exact Stab.asBool _ | exact Stab.loadVar _ _ | exact Stab.load _ | exact Stab.getObj _ | exact Stab.viewAt _ | exact Stab.program | (refine Stab.bind ?_ fun _ => ?_) | split
theorem Stab.byteOf (a : Addr) : Stab P (Go.byteOf a) := by
  unfold Go.byteOf
  split
  · exact Stab.pure _
  · dsimp only
    refine Stab.bind Stab.program fun p => Stab.bind (Stab.noView _) fun _ => Stab.shape (fun w v w1 _ => Dead.stuck _ w v w1) fun x => ?_
    cases x with
    | none => exact (Dead.stuck _).stab
    | some y =>
      dsimp only
      repeat' first | exact Stab.pure _ | exact (Dead.stuck _).stab | split
theorem Stab.partAt (a : Addr) (c b : Nat) : Stab P (Go.partAt a c b) := by
  unfold Go.partAt
  refine Stab.bind (Stab.byteOf _) fun x => ?_
  dsimp only
  exact Stab.bind (Stab.byteOf _) fun _ => Stab.pure _
theorem Stab.fieldPlace (a : Addr) (f : Field) : Stab P (Go.fieldPlace a f) := by
  unfold Go.fieldPlace
  refine Stab.bind (Stab.sizeOf _) fun n => ?_
  split
  · exact Stab.partAt _ _ _
  · exact Stab.pure _
theorem Stab.listMapM {γ : Type} {f : γ → Sem α} (hf : ∀ x, Stab P (f x)) : ∀ l : List γ, Stab P (l.mapM f) := by
  intro l
  induction l with
  | nil => rw [List.mapM_nil]; exact Stab.pure _
  | cons x t ih => rw [List.mapM_cons]; exact Stab.bind (hf x) fun _ => Stab.bind ih fun _ => Stab.pure _
theorem Stab.mapM {γ : Type} {f : γ → Sem α} (hf : ∀ x, Stab P (f x)) (l : Array γ) : Stab P (l.mapM f) := by
  rw [Array.mapM_eq_mapM_toList]
  intro w v w1 h w' he
  rw [Sem.run_map] at h ⊢
  cases hs : (List.mapM f l.toList).run P w with
  | ok a w2 =>
    rw [hs] at h
    rw [Stab.listMapM hf l.toList w a w2 hs w' he]
    simp only [Result.andThen_ok] at h ⊢
    injection h with h1 _
    rw [h1]
  | halt x w2 => rw [hs] at h; cases h
theorem Stab.fieldAt (t : TypeId) (x : Value) (f : Nat) : Stab P (Instr.fieldAt t x f) := by
  unfold Instr.fieldAt
  try dsimp only
  repeat' first | exact Stab.fieldPlace _ _ | exact Stab.pure _ | exact (Dead.stuck _).stab | exact (Dead.unsupported _).stab | exact (Dead.boundsPanic _ _ _ _).stab | exact (Dead.runtimePanic _).stab | exact (Dead.goPanic _).stab | exact Stab.underlying _ | exact Stab.sizeOf _ | exact Stab.typeInfo _ | exact Stab.zeroValue _ | exact Stab.isAgg _ | exact Stab.sureAddr _ | exact Stab.asIntOf _ | exact Stab.asBool _ | exact Stab.loadVar _ _ | exact Stab.load _ | exact Stab.getObj _ | exact Stab.viewAt _ | exact Stab.program | (refine Stab.bind ?_ fun _ => ?_) | split
theorem Stab.build (t : TypeId) (ps : Array (Nat × Value)) : Stab P (Instr.build t ps) := by
  unfold Instr.build
  try dsimp only
  repeat' first | exact Stab.mapM (fun _ => Stab.bind (Stab.sizeOf _) fun _ => Stab.pure _) _ | exact Stab.pure _ | exact (Dead.stuck _).stab | exact (Dead.unsupported _).stab | exact (Dead.boundsPanic _ _ _ _).stab | exact (Dead.runtimePanic _).stab | exact (Dead.goPanic _).stab | exact Stab.underlying _ | exact Stab.sizeOf _ | exact Stab.typeInfo _ | exact Stab.zeroValue _ | exact Stab.isAgg _ | exact Stab.sureAddr _ | exact Stab.asIntOf _ | exact Stab.asBool _ | exact Stab.loadVar _ _ | exact Stab.load _ | exact Stab.getObj _ | exact Stab.viewAt _ | exact Stab.program | (refine Stab.bind ?_ fun _ => ?_) | split

theorem Stab.grow {s : Sem α} (h : Stab P s) : Grow P s := by
  intro w v w1 hr
  have e := h w v w1 hr w (Ext.refl w)
  rw [hr] at e
  injection e with _ e
  subst e
  exact Ext.refl _
theorem Grow.bind {s : Sem α} {f : α → Sem β} (h : Grow P s) (hf : ∀ v, Grow P (f v)) : Grow P (s >>= f) := by
  intro w v w1 hr
  rw [Sem.run_bind] at hr
  cases hs : s.run P w with
  | ok a w2 => rw [hs] at hr; exact (h w a w2 hs).trans (hf a w2 v w1 hr)
  | halt x w2 => rw [hs] at hr; cases hr
theorem Grow.newObj (o : Obj) : Grow P (Go.newObj o) := by
  intro w v w1 h
  simp only [Go.newObj, Sem.run] at h
  injection h with _ h
  subst h
  exact ⟨by simp, fun b hb => by simp [Array.getElem?_push, Nat.ne_of_lt hb]⟩
theorem Grow.choose (q : Question) : Grow P (Go.choose q) := by
  intro w v w1 h
  simp only [Go.choose, Sem.run] at h
  split at h <;> (injection h with _ h; subst h; exact ⟨Nat.le_refl _, fun _ _ => rfl⟩)
theorem Grow.newRow (t : TypeId) (cs : Array Value) : Grow P (Go.newRow t cs) := Grow.bind (Grow.newObj _) fun _ => (Stab.pure _).grow
theorem Grow.newVar (t : TypeId) (v : Value) : Grow P (Go.newVar t v) := Grow.newRow _ _
theorem Grow.box (t : TypeId) (v : Value) : Grow P (Instr.box t v) := Grow.bind (Grow.newVar _ _) fun _ => (Stab.pure _).grow
theorem Grow.alloc (t : TypeId) : Grow P (Instr.alloc t true (.tuple #[])) := by
  unfold Instr.alloc
  exact Grow.bind (Stab.zeroValue t).grow fun z => Grow.bind (Grow.newVar _ _) fun _ => (Stab.pure _).grow
theorem Grow.buildSlice (t : TypeId) (n : Nat) (ps : Array (Nat × Value)) : Grow P (Instr.buildSlice t n ps) := by
  unfold Instr.buildSlice
  dsimp only
  repeat' first | exact (Stab.pure _).grow | exact ((Dead.stuck _).stab).grow | exact ((Dead.unsupported _).stab).grow | exact (Stab.underlying _).grow | exact (Stab.sizeOf _).grow | exact (Stab.zeroValue _).grow | exact Grow.newRow _ _ | (refine Grow.bind ?_ fun _ => ?_) | split
theorem Grow.listFoldlM {γ : Type} {f : α → γ → Sem α} (hf : ∀ x y, Grow P (f x y)) : ∀ (l : List γ) (x : α), Grow P (l.foldlM f x) := by
  intro l
  induction l with
  | nil => intro x; rw [List.foldlM_nil]; exact (Stab.pure _).grow
  | cons y t ih => intro x; rw [List.foldlM_cons]; exact Grow.bind (hf x y) fun _ => ih _
theorem Grow.min2 (x y : Value) : Grow P (Builtin.min2 x y) := by
  unfold Builtin.min2
  repeat' first | exact (Stab.pure _).grow | exact ((Dead.stuck _).stab).grow | exact ((Dead.unsupported _).stab).grow | exact (Stab.stringOp _ _ _).grow | exact (Stab.asBool _).grow | exact Grow.choose _ | (refine Grow.bind ?_ fun _ => ?_) | split
theorem Grow.max2 (x y : Value) : Grow P (Builtin.max2 x y) := by
  unfold Builtin.max2
  repeat' first | exact (Stab.pure _).grow | exact ((Dead.stuck _).stab).grow | exact ((Dead.unsupported _).stab).grow | exact (Stab.stringOp _ _ _).grow | exact (Stab.asBool _).grow | exact Grow.choose _ | (refine Grow.bind ?_ fun _ => ?_) | split
theorem Grow.min_ (ts : Array TypeId) (t : TypeId) (xs : Array Value) : Grow P (Builtin.min_ ts t xs) := by
  unfold Builtin.min_
  split
  · exact ((Dead.stuck _).stab).grow
  · exact Grow.listFoldlM Grow.min2 _ _
theorem Grow.max_ (ts : Array TypeId) (t : TypeId) (xs : Array Value) : Grow P (Builtin.max_ ts t xs) := by
  unfold Builtin.max_
  split
  · exact ((Dead.stuck _).stab).grow
  · exact Grow.listFoldlM Grow.max2 _ _

end
end Go.Proofs.Ytmbilaepeekglaa
