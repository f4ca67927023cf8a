/- Lemmas, walks and contracts that the statements of this seat are proved by. -/
import Derived.Test.YtkkbblpofhenpaaS9
import Derived.Test.YtkkbblpofhenpaaS8
import Derived.Maps.OwnSet
import Derived.Maps.OwnOps
/- Frames in rows: appended, read, written. Nothing of the program but sizes. -/
namespace Go.Proofs.Ytkkbblpofhenpaa
open Go.RowKit

theorem Try.infoFrame : (Try.prog.info? 37).map (fun i => (i.zero, i.size, i.bytes)) = some (some (.agg #[.int .i64 0, .int .i64 0, .int .i64 0, .int .i64 0, .slice none 0 0, .int .i64 0, .int .i64 0, .int .i64 0, .slice none 0 0]), 9, 104) := by kernel_rfl
/-- A frame's nine cells. -/
def fcells (f : Fr) (a b : Value) : List Value := [.int .i64 f.kind, .int .i64 f.epoch, .int .i64 f.seq, .int .i64 f.letter, a, .int .i64 f.init, .int .i64 f.num, .int .i64 f.count, b]
def Rep.frame : Rep Fr where
  size := 9
  pos := by omega
  is fr w S cs f := ∃ a b, cs = fcells f a b ∧ SliceOn Rep.piece fr w S a f.pieces ∧ SliceOn Rep.int fr w S b f.path
  len h := by obtain ⟨a, b, rfl, _⟩ := h; rfl
  keep h hk := by obtain ⟨a, b, rfl, h1, h2⟩ := h; exact ⟨a, b, rfl, h1.keep hk, h2.keep hk⟩
  widen h k1 := by obtain ⟨a, b, rfl, h1, h2⟩ := h; exact ⟨a, b, rfl, h1.widen k1, h2.widen k1⟩
  soft h := by obtain ⟨a, b, rfl, h1, h2⟩ := h; exact ⟨a, b, rfl, h1.soft, h2.soft⟩
  one h := by
    obtain ⟨a, b, rfl, ⟨_, _, rfl, _⟩, ⟨_, _, rfl, _⟩⟩ := h
    intro u hu
    simp [fcells] at hu
    rcases hu with rfl | rfl | rfl | rfl | rfl | rfl | rfl | rfl | rfl <;> rfl
theorem FrIs.rep {fr : Bool} {w : World} {lo hi : Nat} {A B : Option Addr} {k l : Nat} {f : Fr} (h : FrIs fr w lo hi (.agg #[.int .i64 f.kind, .int .i64 f.epoch, .int .i64 f.seq, .int .i64 f.letter, .slice A f.pieces.length k, .int .i64 f.init, .int .i64 f.num, .int .i64 f.count, .slice B f.path.length l]) f) :
    Rep.frame.is fr w (rng lo hi) (fcells f (.slice A f.pieces.length k) (.slice B f.path.length l)) f := by
  obtain ⟨_, _, _, _, he, h1, h2⟩ := h
  cases he
  exact ⟨_, _, rfl, h1, h2⟩

/-! ### a row that grows, whose elements may not be written -/
/-- v: a row of the call's own, in blocks from B on, that reads as xs. -/
def AcF {α : Type} (r : Rep α) (e : TypeId) (B : Nat) (w : World) (v : Value) (xs : List α) : Prop :=
  ∃ cells S, w.ownsRow B e r.size v xs.length cells ∧ r.all false w S cells xs ∧ (∀ b, S b → B ≤ b ∧ b < w.heap.size) ∧ (∀ b, v.ownBlock = some b → ¬ S b)

section
variable {α : Type} {r : Rep α} {e : TypeId} {B : Nat} {w w1 : World} {v : Value} {xs : List α} {x : α} {cs : List Value}
theorem AcF.nil (r : Rep α) (e : TypeId) (B : Nat) (w : World) : AcF r e B w (.slice none 0 0) [] :=
  ⟨[], fun _ => False, World.ownsRow_nil _ _ _ _, rfl, fun _ h => h.elim, fun _ h => by simp [Value.ownBlock] at h⟩
theorem AcF.empty (r : Rep α) (e : TypeId) (w : World) : AcF r e w.heap.size (w.alloc (.cells #[] e)) (.slice (some ⟨w.heap.size, 0, none⟩) 0 0) [] :=
  ⟨[], fun _ => False, own_lit (size := r.size) w.heap.size e 0 [] (by simp) (Nat.le_refl _) (by unfold maxLen; omega), rfl, fun _ h => h.elim, fun _ _ h => h⟩
theorem AcF.lt (h : AcF r e B w v xs) : ∀ b, v.ownBlock = some b → B ≤ b ∧ b < w.heap.size := by
  obtain ⟨cells, S, h1, _⟩ := h; exact h1.lt
theorem AcF.slice (h : AcF r e B w v xs) : SliceIs r false w B w.heap.size v xs := by
  obtain ⟨cells, S, h1, h2, h3, h4⟩ := h
  exact SliceOn.of_own (base := B) (e := e) h1 (Rep.all_widen (fun b hb => h3 b hb) h2) (fun b hb => h1.lt b hb)
theorem AcF.base {B' : Nat} (h : AcF r e B w v xs) (hB : B' ≤ B) : AcF r e B' w v xs := by
  obtain ⟨cells, S, h1, h2, h3, h4⟩ := h
  exact ⟨cells, S, own_base h1 hB, h2, fun b hb => ⟨Nat.le_trans hB (h3 b hb).1, (h3 b hb).2⟩, h4⟩
theorem AcF.move (h : AcF r e B w v xs) (hk : ∀ b, B ≤ b → b < w.heap.size → w1.heap[b]? = w.heap[b]?) (hs : w.heap.size ≤ w1.heap.size) : AcF r e B w1 v xs := by
  obtain ⟨cells, S, h1, h2, h3, h4⟩ := h
  exact ⟨cells, S, own_move h1 hk, Rep.all_keep (fun b hb => hk b (h3 b hb).1 (h3 b hb).2) h2, fun b hb => ⟨(h3 b hb).1, Nat.lt_of_lt_of_le (h3 b hb).2 hs⟩, h4⟩
theorem AcF.below (h : AcF r e B w v xs) (hb : Below w.heap.size w w1) : AcF r e B w1 v xs := h.move (fun b _ h2 => hb.block b h2) hb.size
/-- One more element, which lies in what was made since. -/
theorem AcF.step (h : AcF r e B w v xs) (hk : ∀ b, B ≤ b → b < w.heap.size → w1.heap[b]? = w.heap[b]?) (hs : w.heap.size ≤ w1.heap.size) (hB : B ≤ w.heap.size) (hcs : r.is false w1 (rng w.heap.size w1.heap.size) cs x) :
    ∃ cells, w1.ownsRow B e r.size v xs.length cells ∧ (∀ v' w2, w2.ownsRow B e r.size v' (xs.length + 1) (cells ++ cs) → w1.grownBy w2 v.ownBlock → (v'.ownBlock = v.ownBlock ∨ ∃ n, v'.ownBlock = some n ∧ w1.heap.size ≤ n) → AcF r e B w2 v' (xs ++ [x])) := by
  obtain ⟨cells, S, h1, h2, h3, h4⟩ := h
  have own1 := own_move h1 hk
  have all1 : r.all false w1 S cells xs := Rep.all_keep (fun b hb => hk b (h3 b hb).1 (h3 b hb).2) h2
  refine ⟨cells, own1, fun v' w2 ho hg ha => ?_⟩
  have k1 : ∀ b, (S b ∨ rng w.heap.size w1.heap.size b) → w2.heap[b]? = w1.heap[b]? := by
    rintro b (hb | hb)
    · exact hg.block b (Nat.lt_of_lt_of_le (h3 b hb).2 hs) (fun he => h4 b he.symm hb)
    · refine hg.block b hb.2 (fun he => ?_)
      have := (h1.lt b he.symm).2
      have := hb.1
      omega
  have hnew : r.all false w2 (fun b => S b ∨ rng w.heap.size w1.heap.size b) (cells ++ cs) (xs ++ [x]) :=
    Rep.all_snoc (Rep.all_keep k1 (Rep.all_widen (fun b hb => .inl hb) all1)) (r.keep (r.widen hcs (fun b hb => .inr hb)) k1)
  refine ⟨cells ++ cs, _, by rw [List.length_append]; exact ho, hnew, ?_, ?_⟩
  · rintro b (hb | hb)
    · exact ⟨(h3 b hb).1, Nat.lt_of_lt_of_le (h3 b hb).2 (Nat.le_trans hs hg.size)⟩
    · exact ⟨by have := hb.1; omega, Nat.lt_of_lt_of_le hb.2 hg.size⟩
  · intro b hb hS
    rcases ha with ha | ⟨n, ha, hn⟩
    · rw [ha] at hb
      rcases hS with hS | hS
      · exact h4 b hb hS
      · have := (h1.lt b hb).2; have := hS.1; omega
    · rw [ha] at hb
      injection hb with hb
      subst hb
      rcases hS with hS | hS
      · have := (h3 _ hS).2; omega
      · have := hS.2; omega
end

section
variable {P : Program} {w : World} {ops : Array Oper} {rest : List Oper} {o : Oper} {a : Act} {Q : Exit → Act → World → Prop}
/-- 'append(s, x)': x's cells lie in a block made on the spot; what x leads to was made since 'w0'. -/
theorem wpList_acF {α : Type} {r : Rep α} {w0 : World} {xs : List α} {y : α} (hgd : o.guard = none) (s x : Operand) (t : TypeId) (ho : o.op = .call { callee := .builtin .append, args := #[s, x], argTypes := #[t, t] })
    (B : Nat) (e : TypeId) {z : Value} {bytes : Nat} (hinfo : (P.info? e).map (fun i => (i.zero, i.size, i.bytes)) = some (some z, r.size, bytes)) (ht : P.underlying t = some (.slice e))
    (hzs : z.cells.size = r.size) (hby : bytes ≤ 1000) (v : Value) (hs : a.eval s = v) (hacc : AcF r e B w0 v xs) (hk : ∀ b, B ≤ b → b < w0.heap.size → w.heap[b]? = w0.heap[b]?) (hsz : w0.heap.size ≤ w.heap.size) (hB : B ≤ w0.heap.size)
    (c H : Nat) (cs : List Value) (hx : a.eval x = .slice (some ⟨H, 0, none⟩) 1 c) (hH : w.heap.size = H) (hcs : r.is false w (rng w0.heap.size w.heap.size) cs y) (hn : xs.length ≤ 1000000)
    (h : ∀ v' w', AcF r e B w' v' (xs ++ [y]) → w.grownBy w' v.ownBlock → Below B w w' → wpList P ops Q rest (a.put o.dst v') w') : wpList P ops Q (o :: rest) a (w.alloc (.cells cs.toArray e)) := by
  obtain ⟨cells, hown, hnext⟩ := hacc.step hk hsz hB hcs
  refine wpList_appendB hgd s x t ho B e hinfo ht hzs r.pos v xs.length cells hs hown 1 c H cs hx hH (by rw [r.len hcs]; omega) (r.one hcs) (by unfold maxLen; omega) (Nat.le_trans (Nat.mul_le_mul (show xs.length + 1 ≤ 1000001 by omega) hby) (by omega)) (by omega) ?_
  intro v' w' h1 h2 h3 h4
  refine h v' w' (hnext v' w' h1 h2 ?_) h2 h3
  rcases h4 with h4 | h4
  · exact .inl h4
  · exact .inr ⟨_, h4, by omega⟩
end

/-! ### a row of frames, written field by field -/
/-- Block g holds n frames, one behind the other. -/
structure EachF (w : World) (g n : Nat) (F : Nat → Fr) : Prop where
  lt : g < w.heap.size
  free : ∀ o, w.frozen? ⟨g, o, none⟩ = false
  at_ : ∀ i, i < n → ∃ a b, (∀ q u, (fcells (F i) a b)[q]? = some u → w.cell? ⟨g, i * 9 + q, none⟩ = some u) ∧ SliceOn Rep.piece false w (butS w g) a (F i).pieces ∧ SliceOn Rep.int false w (butS w g) b (F i).path
section
variable {w w' : World} {g n : Nat} {F : Nat → Fr}
theorem EachF.next (h : EachF w g n F) (hb : Below w.heap.size w w') : EachF w' g n F := by
  have hbl := hb.block g h.lt
  have hs : ∀ b, butS w g b → butS w' g b := fun b q => ⟨q.1, Nat.lt_of_lt_of_le q.2 hb.size⟩
  refine ⟨Nat.lt_of_lt_of_le h.lt hb.size, fun o => (frozen_of_block hbl).trans (h.free o), fun i hi => ?_⟩
  obtain ⟨a, b, h1, h2, h3⟩ := h.at_ i hi
  exact ⟨a, b, fun q u hu => (cell_of_block hbl).trans (h1 q u hu), (h2.keep fun b q => hb.block b q.2).widen hs, (h3.keep fun b q => hb.block b q.2).widen hs⟩
theorem EachF.put {i q : Nat} {u : Value} {f' : Fr} (h : EachF w g n F) (hi : i < n) (hq : q < 9)
    (hf : ∀ a b, SliceOn Rep.piece false w (butS w g) a (F i).pieces → SliceOn Rep.int false w (butS w g) b (F i).path → ∃ a' b', fcells f' a' b' = (fcells (F i) a b).set q u ∧ SliceOn Rep.piece false w (butS w g) a' f'.pieces ∧ SliceOn Rep.int false w (butS w g) b' f'.path) :
    EachF (w.setCell ⟨g, i * 9 + q, none⟩ u) g n (upd F i f') := by
  have hsz : (w.setCell ⟨g, i * 9 + q, none⟩ u).heap.size = w.heap.size := by simp [World.setCell]
  have hfar : ∀ b, butS w g b → (w.setCell ⟨g, i * 9 + q, none⟩ u).heap[b]? = w.heap[b]? := fun b hb => heap_setCell_other _ _ _ _ hb.1
  have hbs : ∀ b, butS w g b → butS (w.setCell ⟨g, i * 9 + q, none⟩ u) g b := fun b hb => ⟨hb.1, by rw [hsz]; exact hb.2⟩
  have hfz : ∀ o, (w.setCell ⟨g, i * 9 + q, none⟩ u).frozen? ⟨g, o, none⟩ = false := fun o => by rw [setCell_free]; exact h.free o
  refine ⟨by rw [hsz]; exact h.lt, hfz, fun m hm => ?_⟩
  by_cases hmi : m = i
  · subst hmi
    obtain ⟨a, b, h1, h2, h3⟩ := h.at_ m hm
    obtain ⟨a', b', h4, h5, h6⟩ := hf a b h2 h3
    rw [upd_at]
    refine ⟨a', b', fun p v hv => ?_, (h5.keep hfar).widen hbs, (h6.keep hfar).widen hbs⟩
    rw [h4] at hv
    by_cases hp : p = q
    · subst hp
      have hl : p < (fcells (F m) a b).length := hq
      rw [List.getElem?_set_self hl] at hv
      cases hv
      exact setCell_at (h1 p _ (List.getElem?_eq_getElem hl))
    · rw [List.getElem?_set_ne (Ne.symm hp)] at hv
      rw [setCell_ne (by omega)]
      exact h1 p v hv
  · obtain ⟨a, b, h1, h2, h3⟩ := h.at_ m hm
    rw [upd_ne _ _ hmi]
    refine ⟨a, b, fun p v hv => ?_, (h2.keep hfar).widen hbs, (h3.keep hfar).widen hbs⟩
    have hp : p < 9 := (List.getElem?_eq_some_iff.1 hv).1
    rw [setCell_ne (by omega)]
    exact h1 p v hv
/-- A number is written. -/
theorem EachF.num {i q : Nat} {x : Value} {f' : Fr} (h : EachF w g n F) (hi : i < n) (hq : q < 9) (h1 : f'.pieces = (F i).pieces) (h2 : f'.path = (F i).path) (h3 : ∀ a b, fcells f' a b = (fcells (F i) a b).set q x) : EachF (w.setCell ⟨g, i * 9 + q, none⟩ x) g n (upd F i f') :=
  h.put hi hq fun a b k1 k2 => ⟨a, b, h3 a b, by rw [h1]; exact k1, by rw [h2]; exact k2⟩
theorem EachF.pieces {i : Nat} {x : Value} {ps : List Pc.Piece} (h : EachF w g n F) (hi : i < n) (hx : SliceOn Rep.piece false w (butS w g) x ps) : EachF (w.setCell ⟨g, i * 9 + 4, none⟩ x) g n (upd F i { F i with pieces := ps }) :=
  h.put hi (by omega) fun _ b _ k2 => ⟨x, b, rfl, hx, k2⟩
theorem EachF.path {i : Nat} {x : Value} {xs : List Int} (h : EachF w g n F) (hi : i < n) (hx : SliceOn Rep.int false w (butS w g) x xs) : EachF (w.setCell ⟨g, i * 9 + 8, none⟩ x) g n (upd F i { F i with path := xs }) :=
  h.put hi (by omega) fun a _ k1 _ => ⟨a, x, rfl, k1, hx⟩
theorem EachF.frame (h : EachF w g n F) {i : Nat} (hi : i < n) : ∃ A B k l, (∀ q u, (fcells (F i) (.slice A (F i).pieces.length k) (.slice B (F i).path.length l))[q]? = some u → w.cell? ⟨g, i * 9 + q, none⟩ = some u) ∧
    FrIs false w 0 w.heap.size (.agg #[.int .i64 (F i).kind, .int .i64 (F i).epoch, .int .i64 (F i).seq, .int .i64 (F i).letter, .slice A (F i).pieces.length k, .int .i64 (F i).init, .int .i64 (F i).num, .int .i64 (F i).count, .slice B (F i).path.length l]) (F i) := by
  obtain ⟨a, b, h1, h2, h3⟩ := h.at_ i hi
  have hs : ∀ b, butS w g b → rng 0 w.heap.size b := fun b q => ⟨Nat.zero_le _, q.2⟩
  obtain ⟨A, k, rfl, _⟩ := id h2
  obtain ⟨B, l, rfl, _⟩ := id h3
  exact ⟨A, B, k, l, h1, A, B, k, l, rfl, SliceOn.is_ (h2.widen hs), SliceOn.is_ (h3.widen hs)⟩
end
end Go.Proofs.Ytkkbblpofhenpaa

/- Lanes, in plain Lean. Nothing of the program. -/
namespace Go.Proofs.Ytkkbblpofhenpaa
/-- A lane. -/
structure La where
  fifo : Bool
  cap : Int
  l : List Fr
deriving DecidableEq
namespace La
def zero : La := ⟨false, 0, []⟩
/-- How many frames of a kind. -/
def cnt (k : Int) (l : List Fr) : Nat := (l.filter fun f => f.kind == k).length
def roomy (cap : Int) (n len : Nat) : Bool := decide (1 ≤ cap) && (decide (cap ≤ 20) && (decide ((n : Int) ≤ cap) && decide ((len : Int) - (n : Int) ≤ 5)))
/-- May it be? -/
def right (a : La) : Bool := a.l.all Fr.right && roomy a.cap (cnt 0 a.l) a.l.length
/-- With a frame behind. -/
def more (a : La) (f : Fr) : La := ⟨a.fifo, a.cap, a.l ++ [f]⟩
def push (a : La) (f : Fr) : La := if Fr.right f && right (more a f) then more a f else zero
def pushE (a : La) (f : Fr) : Int := if Fr.right f then (if right (more a f) then 0 else 6) else 4
/-- May the frame at a place be taken? -/
def can (a : La) (i : Int) : Bool := decide (0 ≤ i) && (decide (i < a.l.length) && (!a.fifo || decide (i ≤ 0)))
def less (a : La) (i : Nat) : La := ⟨a.fifo, a.cap, a.l.take i ++ a.l.drop (i + 1)⟩
def take (a : La) (i : Int) : La := if can a i then less a i.toNat else zero
def takeF (a : La) (i : Int) : Fr := if can a i then a.l.getD i.toNat Fr.zero else Fr.zero
def takeE (a : La) (i : Int) : Int := if can a i then 0 else 3
/-- Do so many messages more fit? -/
def fits (a : La) (n : Int) : Bool := decide (n < 1) || decide (n ≤ a.cap - (cnt 0 a.l : Int))
/-- The messages. -/
def msgs (a : La) : List (Int × Int) := (a.l.filter fun f => f.kind == 0).map fun f => (f.seq, f.letter)
/-- At most so many frames, each cut. -/
def cut (a : La) : La := ⟨a.fifo, a.cap, (a.l.take 30).map Fr.cut⟩
theorem cnt_nil (k : Int) : cnt k [] = 0 := rfl
theorem cnt_snoc (k : Int) (l : List Fr) (f : Fr) : cnt k (l ++ [f]) = cnt k l + (if f.kind = k then 1 else 0) := by
  unfold cnt
  rw [List.filter_append, List.length_append]
  by_cases h : f.kind = k <;> simp [h]
theorem cnt_le (k : Int) (l : List Fr) : cnt k l ≤ l.length := List.length_filter_le _ _
theorem cnt_yes {k : Int} {l : List Fr} {j : Nat} {f : Fr} (hx : l[j]? = some f) (h : f.kind = k) : cnt k (l.take (j + 1)) = cnt k (l.take j) + 1 := by
  rw [Pc.take_next hx, cnt_snoc, if_pos h]
theorem cnt_no {k : Int} {l : List Fr} {j : Nat} {f : Fr} (hx : l[j]? = some f) (h : f.kind ≠ k) : cnt k (l.take (j + 1)) = cnt k (l.take j) := by
  rw [Pc.take_next hx, cnt_snoc, if_neg h]; omega
theorem like_len {α : Type} [DecidableEq α] {xs ys : List α} (h : xs.length ≠ ys.length) : decide (xs = ys) = false := decide_eq_false fun e => h (by rw [e])
theorem like_no {α : Type} [DecidableEq α] {xs ys : List α} {j : Nat} {x y : α} (hx : xs[j]? = some x) (hy : ys[j]? = some y) (h : x ≠ y) : decide (xs = ys) = false :=
  decide_eq_false fun e => by subst e; rw [hx] at hy; cases hy; exact h rfl
theorem like_next {α : Type} {xs ys : List α} {j : Nat} {x y : α} (h : xs.take j = ys.take j) (hx : xs[j]? = some x) (hy : ys[j]? = some y) (he : x = y) : xs.take (j + 1) = ys.take (j + 1) := by
  rw [Pc.take_next hx, Pc.take_next hy, h, he]
theorem like_end {α : Type} [DecidableEq α] {xs ys : List α} {j : Nat} (hl : xs.length = ys.length) (hj : ¬ j < xs.length) (h : xs.take j = ys.take j) : decide (xs = ys) = true := by
  rw [List.take_of_length_le (by omega), List.take_of_length_le (by omega)] at h
  exact decide_eq_true h
end La
end Go.Proofs.Ytkkbblpofhenpaa

/- Lanes by value; what the document says of them. -/
namespace Go.Proofs.Ytkkbblpofhenpaa
open Go.RowKit

theorem SliceAt.frame {fr : Bool} {w : World} {lo hi k : Nat} {A : Option Addr} {xs : List Fr} {x : Fr} (h : SliceAt Rep.frame fr w lo hi A xs) (hx : xs[k]? = some x) :
    ∃ g o aA aB ak al, A = some ⟨g, o, none⟩ ∧ lo ≤ g ∧ g < hi ∧ (∀ q u, (fcells x (.slice aA x.pieces.length ak) (.slice aB x.path.length al))[q]? = some u → w.cell? ⟨g, o + k * 9 + q, none⟩ = some u) ∧ FrIs fr w lo hi (.agg #[.int .i64 x.kind, .int .i64 x.epoch, .int .i64 x.seq, .int .i64 x.letter, .slice aA x.pieces.length ak, .int .i64 x.init, .int .i64 x.num, .int .i64 x.count, .slice aB x.path.length al]) x := by
  obtain ⟨g, o, cs, rfl, h1, ⟨a, b, rfl, h3, h4⟩, h5⟩ := AtOn.at_ h hx
  obtain ⟨aA, ak, rfl, _⟩ := id h3
  obtain ⟨aB, al, rfl, _⟩ := id h4
  refine ⟨g, o, aA, aB, ak, al, rfl, h1.1, h1.2, fun q u hu => ?_, aA, aB, ak, al, rfl, h3, h4⟩
  have := (h5 q u hu).1
  simpa [Rep.frame, Nat.add_assoc] using this
/-- A lane by value. -/
def LaIs (fr : Bool) (w : World) (lo hi : Nat) (v : Value) (a : La) : Prop := ∃ A c, v = .agg #[.bool a.fifo, .int .i64 a.cap, .slice A a.l.length c] ∧ SliceIs Rep.frame fr w lo hi (.slice A a.l.length c) a.l
section
variable {fr : Bool} {w w' : World} {lo hi lo' hi' : Nat} {v : Value} {a : La}
theorem LaIs.keep (h : LaIs fr w lo hi v a) (hk : ∀ b, lo ≤ b → b < hi → w'.heap[b]? = w.heap[b]?) : LaIs fr w' lo hi v a := by
  obtain ⟨A, c, rfl, h1⟩ := h; exact ⟨A, c, rfl, h1.keep hk⟩
theorem LaIs.widen (h : LaIs fr w lo hi v a) (k1 : lo' ≤ lo) (k2 : hi ≤ hi') : LaIs fr w lo' hi' v a := by
  obtain ⟨A, c, rfl, h1⟩ := h; exact ⟨A, c, rfl, h1.widen k1 k2⟩
theorem LaIs.soft (h : LaIs fr w lo hi v a) : LaIs false w lo hi v a := by
  obtain ⟨A, c, rfl, h1⟩ := h; exact ⟨A, c, rfl, h1.soft⟩
theorem LaIs.next (h : LaIs fr w lo w.heap.size v a) (hb : Below w.heap.size w w') : LaIs fr w' lo w'.heap.size v a := (h.keep fun b _ h2 => hb.block b h2).widen (Nat.le_refl _) hb.size
theorem LaIs.zero_ (h : LaIs fr w lo w.heap.size v a) : LaIs false w 0 w.heap.size v a := (h.widen (Nat.zero_le _) (Nat.le_refl _)).soft
end
theorem SliceIs.len_le {α : Type} {r : Rep α} {fr : Bool} {w : World} {lo hi n c : Nat} {A : Option Addr} {xs : List α} (h : SliceIs r fr w lo hi (.slice A n c) xs) : xs.length ≤ 9223372036854775807 := by
  obtain ⟨_, _, _, h1, h2, _⟩ := h
  unfold maxLen at h2
  omega
theorem SliceIs.at' {α : Type} {r : Rep α} {fr : Bool} {w : World} {lo hi n c : Nat} {A : Option Addr} {xs : List α} (h : SliceIs r fr w lo hi (.slice A n c) xs) : SliceAt r fr w lo hi A xs := by
  obtain ⟨_, _, he, _, _, h⟩ := h
  cases he
  exact h
theorem three_cells {w : World} {b : Nat} {x y z : Value} {T : TypeId} (h : Box w b #[x, y, z] T) : w.cell? ⟨b, 0, none⟩ = some x ∧ w.cell? ⟨b, 1, none⟩ = some y ∧ w.cell? ⟨b, 2, none⟩ = some z :=
  ⟨blk_cell h 0, blk_cell h 1, blk_cell h 2⟩
theorem three_free {w : World} {b : Nat} {x y z : Value} {T : TypeId} (h : Box w b #[x, y, z] T) (i : Nat) : w.frozen? ⟨b, i, none⟩ = false := by
  have h' : w.heap[b]? = _ := h
  simp [World.frozen?, h']

theorem rfrall_apart (v u : Value) (xs ys : List Fr) (w : World) (h : SliceIs Rep.frame false w 0 w.heap.size v xs) (h' : SliceIs Rep.frame false w 0 w.heap.size u ys) (hne : xs.length ≠ ys.length) :
    Calls Try.prog 66 #[v, u] w fun x w' => x = .returned (.bool false) ∧ Below w.heap.size w w' := by
  obtain ⟨A, c, rfl, l1, m1, _⟩ := h
  obtain ⟨A', c', rfl, l2, m2, _⟩ := h'
  have e : (((xs.length : Nat) : Int) != ((ys.length : Nat) : Int)) = true := by rw [bne_iff_ne]; omega
  clear hne
  unfold maxLen at m1 m2
  go_enter Try.func66, Try.ntmps66
  go_wp2_with fail
  go_ret
  exact ⟨rfl, Below.refl _ _⟩

set_option maxRecDepth 100000 in
set_option maxHeartbeats 2000000 in
theorem rfrall_like (v u : Value) (xs ys : List Fr) (w : World) (h : SliceIs Rep.frame false w 0 w.heap.size v xs) (h' : SliceIs Rep.frame false w 0 w.heap.size u ys) (hne : xs.length = ys.length) : Calls Try.prog 66 #[v, u] w
    fun y w' => y = .returned (.bool (decide (xs = ys))) ∧ Below w.heap.size w w' := by
  obtain ⟨A, c, rfl, l1, m1, h1⟩ := h
  obtain ⟨A', c', rfl, l2, m2, h2⟩ := h'
  rw [← hne] at l2 ⊢
  have HN := Lib.hid hne; clear hne
  generalize hd : decide (xs = ys) = d
  have HD := Lib.hid hd; clear hd
  unfold maxLen at m1 m2
  go_enter Try.func66, Try.ntmps66
  go_wp2_with fail
  go_loopg [5] xs.length (fun k i wr => ∃ j : Nat, i = .int .i64 (j : Int) ∧ j ≤ xs.length ∧ k = xs.length - j ∧ xs.take j = ys.take j ∧ Below w.heap.size w wr)
  case atStart => exact ⟨0, rfl, by omega, by omega, rfl, Below.refl _ _⟩
  case round =>
    obtain ⟨j, rfl, hj, hk, hl, hB⟩ := hrel
    have HL := Lib.hid hl; clear hl
    have HK := Lib.hid hk; clear hk
    by_cases hlt : j < xs.length
    ·
      obtain ⟨x, hx⟩ := Pc.get_at hlt
      obtain ⟨y, hy⟩ := Pc.get_at (l := ys) (j := j) (by have := HN.out; omega)
      have hd := hB.drew
      have hsz := hd.size
      obtain ⟨g, o, cA, cB, ck, cl, rfl, _, hg, hc, hp⟩ := (h1.below hd (Nat.le_refl _)).frame hx
      obtain ⟨g', o', dA, dB, dk, dl, rfl, _, hg', hd', hq⟩ := (h2.below hd (Nat.le_refl _)).frame hy
      have c0 := hc 0 _ rfl
      have c1 := hc 1 _ rfl
      have c2 := hc 2 _ rfl
      have c3 := hc 3 _ rfl
      have c4 := hc 4 _ rfl
      have c5 := hc 5 _ rfl
      have c6 := hc 6 _ rfl
      have c7 := hc 7 _ rfl
      have c8 := hc 8 _ rfl
      simp only [Nat.add_zero] at c0
      have d0 := hd' 0 _ rfl
      have d1 := hd' 1 _ rfl
      have d2 := hd' 2 _ rfl
      have d3 := hd' 3 _ rfl
      have d4 := hd' 4 _ rfl
      have d5 := hd' 5 _ rfl
      have d6 := hd' 6 _ rfl
      have d7 := hd' 7 _ rfl
      have d8 := hd' 8 _ rfl
      simp only [Nat.add_zero] at d0
      have HX := Lib.hid hx; clear hx
      have HY := Lib.hid hy; clear hy
      clear h1 h2 hc hd'
      replace hp := hp.widen (Nat.le_refl 0) hsz
      replace hq := hq.widen (Nat.le_refl 0) hsz
      clear hd
      have hEp := hp; have hEq := hq
      go_upto_region 6 with fail
      replace hB := hB.drew
      have hE := Ext.refl (wr.drew)
      refine region_go 256 (by kernel_rfl) ?_
      refine wpAny_go 256 0 [0, 1, 2, 3, 4, 5, 6, 7] 255 2 (by kernel_rfl) (by kernel_rfl) (fun _ _ _ _ _ h => h) (by kernel_rfl) (by rfl) (by rfl) (by kernel_rfl) ?_
      simp only [List.map_cons, List.map_nil, List.getD_cons_succ, List.getD_cons_zero]
      go_wp2_with fail
      change wpAnyM _ _ _ _ _ _ _ _ _ _
      clear c0 c1 c2 c3 c4 c5 c6 c7 c8
      clear d0 d1 d2 d3 d4 d5 d6 d7 d8
      refine wpAny_oneM 8 511 (by kernel_rfl) (by kernel_rfl) (of_decide_eq_true (by kernel_rfl)) (by rfl) ?_
      simp only [List.getD_cons_succ, List.getD_cons_zero]
      go_wp2_with fail
      refine (rfrsame_any _ _ x y _ hp hq).mono ?_
      rintro e w1 ⟨rfl, hb⟩
      replace hE := hE.trans (Ext.below hb (Nat.le_refl _))
      replace hB := hB.trans (hb.mono hB.size)
      clear hb
      go_wp2_with fail
      refine ⟨fun _ => hE, ?_⟩
      refine wpAny_go 256 511 [9] 1023 0 (by kernel_rfl) (by kernel_rfl) (fun _ _ _ _ _ h => h) (by kernel_rfl) (by rfl) (by rfl) (by kernel_rfl) ?_
      simp only [List.map_cons, List.map_nil, List.getD_cons_succ, List.getD_cons_zero]
      go_wp2_with fail
      change wpAnyM _ _ _ _ _ _ _ _ _ _
      refine wpAny_endM (by kernel_rfl) (by kernel_rfl) ?_
      cases hxy : decide (x = y)
      ·
        have HXY := Lib.hid (of_decide_eq_false hxy); clear hxy
        go_wp2_with fail
        go_ret
        exact ⟨by rw [← HD.out, La.like_no HX.out HY.out HXY.out]; rfl, hB⟩
      ·
        have HXY := Lib.hid (of_decide_eq_true hxy); clear hxy
        go_wp2_with fail
        go_roundg (xs.length - (j + 1))
        case rel => exact ⟨j + 1, by simp, by omega, rfl, La.like_next HL.out HX.out HY.out HXY.out, hB⟩
        case measure => have := HK.out; omega
    ·
      go_wp2_with fail
      go_ret
      exact ⟨by rw [← HD.out, La.like_end HN.out hlt HL.out]; rfl, hB⟩

theorem rfrall_any (v u : Value) (xs ys : List Fr) (w : World) (h : SliceIs Rep.frame false w 0 w.heap.size v xs) (h' : SliceIs Rep.frame false w 0 w.heap.size u ys) :
    Calls Try.prog 66 #[v, u] w fun x w' => x = .returned (.bool (decide (xs = ys))) ∧ Below w.heap.size w w' := by
  by_cases hne : xs.length = ys.length
  · exact rfrall_like v u xs ys w h h' hne
  · rw [La.like_len hne]
    exact rfrall_apart v u xs ys w h h' hne

set_option maxRecDepth 100000 in
set_option maxHeartbeats 2000000 in
theorem racount_any (v : Value) (a : La) (k : Int) (w : World) (h : LaIs false w 0 w.heap.size v a) : Calls Try.prog 27 #[v, .int .i64 k] w
    fun y w' => y = .returned (.int .i64 (La.cnt k a.l : Int)) ∧ Below w.heap.size w w' := by
  obtain ⟨A, c, rfl, h1⟩ := h
  have hl := h1.len_le
  go_enter Try.func27, Try.ntmps27
  go_upto_region 1 with fail
  refine name_wp fun W0 hW0 => ?_
  have bx : Box W0 w.heap.size #[.bool a.fifo, .int .i64 a.cap, .slice A a.l.length c] 28 := hW0 ▸ Box.at' _ _ rfl
  have hB : Below w.heap.size w W0 := hW0 ▸ (Below.refl _ _).alloc (Nat.le_refl _) _
  clear hW0
  replace h1 := h1.below hB (Nat.le_refl _)
  have hs := h1.at'
  clear h1
  obtain ⟨d0, d1, d2⟩ := three_cells bx
  have hbl := bx.lt
  go_wp2_with fail
  go_loopg [5, 6] a.l.length (fun m n i wr => ∃ j : Nat, n = .int .i64 (La.cnt k (a.l.take j) : Int) ∧ i = .int .i64 (j : Int) ∧ j ≤ a.l.length ∧ m = a.l.length - j ∧ wr = W0)
  case atStart => exact ⟨0, rfl, rfl, by omega, by omega, rfl⟩
  case round =>
    obtain ⟨j, rfl, rfl, hj, hm, rfl⟩ := hrel
    have HM := Lib.hid hm; clear hm
    have hcl := La.cnt_le k (a.l.take j)
    rw [List.length_take] at hcl
    obtain ⟨n, hn⟩ : ∃ n, La.cnt k (a.l.take j) = n := ⟨_, rfl⟩
    rw [hn] at hcl ⊢
    have HN := Lib.hid hn; clear hn
    by_cases hlt : j < a.l.length
    ·
      obtain ⟨x, hx⟩ := Pc.get_at hlt
      obtain ⟨g, o, cA, cB, ck, cl, rfl, _, hg, hc, _⟩ := hs.frame hx
      have c0 := hc 0 _ rfl
      simp only [Nat.add_zero] at c0
      have HX := Lib.hid hx; clear hx hc hs
      by_cases hk : x.kind = k
      ·
        have HKK := Lib.hid hk
        have hkb : (x.kind == k) = true := by simpa using hk
        clear hk
        go_wp2_with fail
        go_roundg (a.l.length - (j + 1))
        case rel => exact ⟨j + 1, by rw [La.cnt_yes HX.out HKK.out, HN.out]; simp, by simp, by omega, rfl, rfl⟩
        case measure => have := HM.out; omega
      ·
        have HKK := Lib.hid hk
        have hkb : (x.kind == k) = false := by simpa using hk
        clear hk
        go_wp2_with fail
        go_roundg (a.l.length - (j + 1))
        case rel => exact ⟨j + 1, by rw [La.cnt_no HX.out HKK.out, HN.out], by simp, by omega, rfl, rfl⟩
        case measure => have := HM.out; omega
    ·
      have hjl : j = a.l.length := by omega
      have hn2 := HN.out
      rw [hjl, List.take_of_length_le (Nat.le_refl _)] at hn2
      have HN2 := Lib.hid hn2; clear hn2 hjl
      go_wp2_with fail
      go_ret
      exact ⟨by rw [HN2.out]; rfl, hB⟩
end Go.Proofs.Ytkkbblpofhenpaa

/- Lanes whose lists lie in blocks of a set; a row of the call's own whose elements lead to blocks of a set; appends to it. -/
namespace Go.Proofs.Ytkkbblpofhenpaa
open Go.RowKit

section
variable {α : Type} {r : Rep α} {fr : Bool} {w w' : World} {S S' : Nat → Prop} {n c g o k : Nat} {A : Option Addr} {xs : List α}
theorem SliceOn.head_ (h : SliceOn r fr w S (.slice A n c) xs) (hk : k ≤ xs.length) : SliceOn r fr w S (.slice A k c) (xs.take k) := by
  obtain ⟨_, _, he, h1, h2, h3⟩ := h
  cases he
  exact ⟨_, _, by rw [List.length_take, Nat.min_eq_left hk], by rw [List.length_take]; omega, h2, h3.take k⟩
theorem SliceOn.tail_ (h : SliceOn r fr w S (.slice (some ⟨g, o, none⟩) n c) xs) (hk : k ≤ xs.length) :
    SliceOn r fr w S (.slice (if c = k then some ⟨g, o, none⟩ else some ⟨g, o + k * r.size, none⟩) (n - k) (c - k)) (xs.drop k) := by
  obtain ⟨A, c', he, h1, h2, cells, h3, h4⟩ := h
  cases he
  refine ⟨_, _, by rw [List.length_drop], by rw [List.length_drop]; omega, by omega, cells.drop (k * r.size), Rep.all_drop k h3, fun hpos => ?_⟩
  rw [List.length_drop] at hpos
  obtain ⟨g', o', he, hS, hc⟩ := h4 (by omega)
  cases he
  refine ⟨g, o + k * r.size, by rw [if_neg (by omega)], hS, fun j u hj => ?_⟩
  rw [List.getElem?_drop] at hj
  have := hc _ _ hj
  rw [← Nat.add_assoc] at this
  exact this
theorem SliceOn.arr (h : SliceOn r fr w S (.slice A n c) xs) : AtOn r fr w S A xs := by
  obtain ⟨_, _, he, _, _, h⟩ := h
  cases he
  exact h
theorem SliceOn.all_ (h : SliceOn r fr w S (.slice A n c) xs) (hS : ∀ b, S b → b < w.heap.size) : SliceIs r fr w 0 w.heap.size (.slice A n c) xs := SliceOn.is_ (h.widen fun b hb => ⟨Nat.zero_le _, hS b hb⟩)
end
/-- A lane by value; its lists lie in the blocks S. -/
def LaOn (w : World) (S : Nat → Prop) (v : Value) (a : La) : Prop := ∃ A c, v = .agg #[.bool a.fifo, .int .i64 a.cap, .slice A a.l.length c] ∧ SliceOn Rep.frame false w S (.slice A a.l.length c) a.l
section
variable {w w' : World} {S S' : Nat → Prop} {v : Value} {a : La}
theorem LaOn.keep (h : LaOn w S v a) (hk : ∀ b, S b → w'.heap[b]? = w.heap[b]?) : LaOn w' S v a := by obtain ⟨A, c, rfl, h1⟩ := h; exact ⟨A, c, rfl, h1.keep hk⟩
theorem LaOn.widen (h : LaOn w S v a) (hk : ∀ b, S b → S' b) : LaOn w S' v a := by obtain ⟨A, c, rfl, h1⟩ := h; exact ⟨A, c, rfl, h1.widen hk⟩
theorem LaOn.is_ (h : LaOn w S v a) (hS : ∀ b, S b → b < w.heap.size) : LaIs false w 0 w.heap.size v a := by obtain ⟨A, c, rfl, h1⟩ := h; exact ⟨A, c, rfl, h1.all_ hS⟩
theorem LaIs.on {lo hi : Nat} (h : LaIs false w lo hi v a) : LaOn w (rng lo hi) v a := by obtain ⟨A, c, rfl, h1⟩ := h; exact ⟨A, c, rfl, h1.on⟩
theorem LaOn.rng_ {lo hi : Nat} (h : LaOn w S v a) (hS : ∀ b, S b → lo ≤ b ∧ b < hi) : LaIs false w lo hi v a := by obtain ⟨A, c, rfl, h1⟩ := h; exact ⟨A, c, rfl, SliceOn.is_ (h1.widen hS)⟩
theorem FrOn.keep {S : Nat → Prop} {f : Fr} (h : FrOn false w S v f) (hk : ∀ b, S b → w'.heap[b]? = w.heap[b]?) : FrOn false w' S v f := by obtain ⟨A, B, k, l, rfl, h1, h2⟩ := h; exact ⟨A, B, k, l, rfl, h1.keep hk, h2.keep hk⟩
theorem FrOn.widen {S S' : Nat → Prop} {f : Fr} (h : FrOn false w S v f) (hk : ∀ b, S b → S' b) : FrOn false w S' v f := by obtain ⟨A, B, k, l, rfl, h1, h2⟩ := h; exact ⟨A, B, k, l, rfl, h1.widen hk, h2.widen hk⟩
theorem FrOn.is_ {S : Nat → Prop} {f : Fr} (h : FrOn false w S v f) (hS : ∀ b, S b → b < w.heap.size) : FrIs false w 0 w.heap.size v f := by obtain ⟨A, B, k, l, rfl, h1, h2⟩ := h; exact FrIs.of (h1.all_ hS) (h2.all_ hS)
theorem FrOn.rng_ {S : Nat → Prop} {lo hi : Nat} {f : Fr} (h : FrOn false w S v f) (hS : ∀ b, S b → lo ≤ b ∧ b < hi) : FrIs false w lo hi v f := by obtain ⟨A, B, k, l, rfl, h1, h2⟩ := h; exact FrIs.of (SliceOn.is_ (h1.widen hS)) (SliceOn.is_ (h2.widen hS))
theorem FrIs.on {lo hi : Nat} {f : Fr} (h : FrIs false w lo hi v f) : FrOn false w (rng lo hi) v f := by obtain ⟨A, B, k, l, rfl, h1, h2⟩ := h; exact ⟨A, B, k, l, rfl, h1.on, h2.on⟩
theorem AtOn.frame {fr : Bool} {S : Nat → Prop} {k : Nat} {A : Option Addr} {xs : List Fr} {x : Fr} (h : AtOn Rep.frame fr w S A xs) (hx : xs[k]? = some x) :
    ∃ g o aA aB ak al, A = some ⟨g, o, none⟩ ∧ S g ∧ (∀ q u, (fcells x (.slice aA x.pieces.length ak) (.slice aB x.path.length al))[q]? = some u → w.cell? ⟨g, o + k * 9 + q, none⟩ = some u) ∧ FrOn fr w S (.agg #[.int .i64 x.kind, .int .i64 x.epoch, .int .i64 x.seq, .int .i64 x.letter, .slice aA x.pieces.length ak, .int .i64 x.init, .int .i64 x.num, .int .i64 x.count, .slice aB x.path.length al]) x := by
  obtain ⟨g, o, cs, rfl, h1, ⟨a, b, rfl, h3, h4⟩, h5⟩ := AtOn.at_ h hx
  obtain ⟨aA, ak, rfl, _⟩ := id h3
  obtain ⟨aB, al, rfl, _⟩ := id h4
  refine ⟨g, o, aA, aB, ak, al, rfl, h1, fun q u hu => ?_, aA, aB, ak, al, rfl, h3, h4⟩
  have := (h5 q u hu).1
  simpa [Rep.frame, Nat.add_assoc] using this
/-- What was there, or is new. -/
def also (S : Nat → Prop) (B E : Nat) : Nat → Prop := fun b => S b ∨ (B ≤ b ∧ b < E)
end
/-- v: a row of the call's own, in block b (from B on), that reads as xs; its elements lead to blocks of S. -/
def RowH {α : Type} (r : Rep α) (e : TypeId) (S : Nat → Prop) (B : Nat) (w : World) (b : Option Nat) (v : Value) (xs : List α) : Prop :=
  ∃ cells, w.ownsRow B e r.size v xs.length cells ∧ r.all false w S cells xs ∧ v.ownBlock = b
section
variable {α : Type} {r : Rep α} {e : TypeId} {S : Nat → Prop} {B : Nat} {w w' : World} {v : Value} {xs : List α} {b : Option Nat}
theorem RowH.lt (h : RowH r e S B w b v xs) {k : Nat} (hk : b = some k) : B ≤ k ∧ k < w.heap.size := by
  obtain ⟨cells, h1, _, h3⟩ := h
  exact h1.lt k (h3.trans hk)
theorem RowH.base {B' : Nat} (h : RowH r e S B w b v xs) (hB : B' ≤ B) : RowH r e S B' w b v xs := by
  obtain ⟨cells, h1, h2, h3⟩ := h
  exact ⟨cells, own_base h1 hB, h2, h3⟩
theorem RowH.keep (h : RowH r e S B w b v xs) (hk : ∀ k, b = some k ∨ S k → w'.heap[k]? = w.heap[k]?) : RowH r e S B w' b v xs := by
  obtain ⟨cells, h1, h2, h3⟩ := h
  refine ⟨cells, ⟨h1.1, ?_⟩, Rep.all_keep (fun k h => hk k (.inr h)) h2, h3⟩
  rcases h1.2 with h4 | ⟨g, cap, cur, hv, hg, hh, hr⟩
  · exact .inl h4
  · have : b = some g := by rw [← h3, hv]; rfl
    exact .inr ⟨g, cap, cur, hv, hg, (hk g (.inl this)).trans hh, hr⟩
theorem RowH.next (h : RowH r e S B w b v xs) (hb : Below w.heap.size w w') (hh : ∀ k, S k → k < w.heap.size) : RowH r e S B w' b v xs :=
  h.keep fun k hk => hb.block k (hk.elim (fun q => (h.lt q).2) (hh k))
theorem RowH.slice (h : RowH r e S B w b v xs) (hh : ∀ k, S k → k < w.heap.size) : SliceIs r false w 0 w.heap.size v xs := by
  obtain ⟨cells, h1, h2, h3⟩ := h
  exact SliceOn.of_own (base := B) (e := e) h1 (Rep.all_widen (fun k hk => ⟨Nat.zero_le _, hh k hk⟩) h2) (fun k hk => ⟨Nat.zero_le _, (h1.lt k hk).2⟩)
theorem RowH.on (h : RowH r e S B w b v xs) : SliceOn r false w (fun k => S k ∨ b = some k) v xs := by
  obtain ⟨cells, h1, h2, rfl⟩ := h
  exact SliceOn.of_own (base := B) (e := e) h1 (Rep.all_widen (fun k hk => .inl hk) h2) (fun k hk => .inr hk)
theorem RowH.form (h : RowH r e S B w b v xs) : ∃ A cap, v = .slice A xs.length cap := by
  obtain ⟨cells, h1, _⟩ := h
  rcases h1.2 with ⟨rfl, h4⟩ | ⟨g, cap, cur, rfl, _⟩
  · exact ⟨none, 0, by rw [h4]⟩
  · exact ⟨_, _, rfl⟩
theorem RowH.empty (r : Rep α) (e : TypeId) (S : Nat → Prop) (w : World) : RowH r e S w.heap.size (w.alloc (.cells #[] e)) (some w.heap.size) (.slice (some ⟨w.heap.size, 0, none⟩) 0 0) [] :=
  ⟨[], own_lit (size := r.size) w.heap.size e 0 [] (by simp) (Nat.le_refl _) (by unfold maxLen; omega), rfl, rfl⟩
end
section
variable {P : Program} {w : World} {ops : Array Oper} {rest : List Oper} {o : Oper} {a : Act} {Q : Exit → Act → World → Prop}
/-- 'append(s, x)': the element lies in a block made on the spot. -/
theorem wpList_rowHB {α : Type} {r : Rep α} {S : Nat → Prop} {xs : List α} {y : α} (hgd : o.guard = none) (s x : Operand) (t : TypeId) (ho : o.op = .call { callee := .builtin .append, args := #[s, x], argTypes := #[t, t] })
    (B : Nat) (e : TypeId) {z : Value} {bytes : Nat} (hinfo : (P.info? e).map (fun i => (i.zero, i.size, i.bytes)) = some (some z, r.size, bytes)) (ht : P.underlying t = some (.slice e))
    (hzs : z.cells.size = r.size) (hby : bytes ≤ 1000) (v : Value) {b : Option Nat} (hs : a.eval s = v) (hrow : RowH r e S B w b v xs) (hh : ∀ k, S k → k < B) (hB : B ≤ w.heap.size)
    (c H : Nat) (cs : List Value) (hx : a.eval x = .slice (some ⟨H, 0, none⟩) 1 c) (hH : w.heap.size = H) (hcs : r.is false w S cs y) (hn : xs.length ≤ 1000000)
    (h : ∀ v' w' b', RowH r e S B w' b' v' (xs ++ [y]) → w.grownBy w' b → Below B w w' → (b' = b ∨ ∃ k, b' = some k ∧ w.heap.size ≤ k) → wpList P ops Q rest (a.put o.dst v') w') : wpList P ops Q (o :: rest) a (w.alloc (.cells cs.toArray e)) := by
  obtain ⟨cells, h1, h2, rfl⟩ := hrow
  refine wpList_appendB hgd s x t ho B e hinfo ht hzs r.pos v xs.length cells hs h1 1 c H cs hx hH (by rw [r.len hcs]; omega) (r.one hcs) (by unfold maxLen; omega) (Nat.le_trans (Nat.mul_le_mul (show xs.length + 1 ≤ 1000001 by omega) hby) (by omega)) hB ?_
  intro v' w' k1 k2 k3 k4
  have hk : ∀ b, S b → w'.heap[b]? = w.heap[b]? := fun b hb => k3.block b (hh b hb)
  refine h v' w' _ ⟨cells ++ cs, by rw [List.length_append]; exact k1, Rep.all_snoc (Rep.all_keep hk h2) (r.keep hcs hk), rfl⟩ k2 k3 ?_
  rcases k4 with k4 | k4
  · exact .inl k4
  · exact .inr ⟨_, k4, by omega⟩
/-- 'append(s, x...)'. -/
theorem wpList_rowHS {α : Type} {r : Rep α} {S : Nat → Prop} {xs ys : List α} (hgd : o.guard = none) (s x : Operand) (t : TypeId) (ho : o.op = .call { callee := .builtin .append, args := #[s, x], argTypes := #[t, t] })
    (B : Nat) (e : TypeId) {z : Value} {bytes : Nat} (hinfo : (P.info? e).map (fun i => (i.zero, i.size, i.bytes)) = some (some z, r.size, bytes)) (ht : P.underlying t = some (.slice e))
    (hzs : z.cells.size = r.size) (hby : bytes ≤ 1000) (v u : Value) {b : Option Nat} (hs : a.eval s = v) (hrow : RowH r e S B w b v xs) (hh : ∀ k, S k → k < B) (hB : B ≤ w.heap.size)
    (hx : a.eval x = u) (hu : SliceOn r false w S u ys) (hn : xs.length + ys.length ≤ 1000000)
    (h : ∀ v' w' b', RowH r e S B w' b' v' (xs ++ ys) → w.grownBy w' b → Below B w w' → (b' = b ∨ ∃ k, b' = some k ∧ w.heap.size ≤ k) → wpList P ops Q rest (a.put o.dst v') w') : wpList P ops Q (o :: rest) a w := by
  obtain ⟨cells, h1, h2, rfl⟩ := hrow
  obtain ⟨A, c, rfl, _, _, hA⟩ := hu
  refine wpList_appendOn hgd s x t ho B e hinfo ht hzs v xs.length cells hs h1 A c hx hA (by unfold maxLen; omega) (Nat.le_trans (Nat.mul_le_mul (show xs.length + ys.length ≤ 1000001 by omega) hby) (by omega)) hB ?_
  intro v' w' news k0 k1 k2 k3 k4
  have hk : ∀ b, S b → w'.heap[b]? = w.heap[b]? := fun b hb => k3.block b (hh b hb)
  refine h v' w' _ ⟨cells ++ news, by rw [List.length_append]; exact k1, Rep.all_append (Rep.all_keep hk h2) (Rep.all_keep hk k0), rfl⟩ k2 k3 ?_
  rcases k4 with k4 | k4
  · exact .inl k4
  · exact .inr ⟨_, k4, by omega⟩
end
/-- A lane's box and its row, both new; the row's elements lead to blocks of S. -/
def Outs (e l : TypeId) (W : World) (S : Nat → Prop) (fi : Bool) (cp : Int) (xs : List Fr) (p : Value) (w : World) : Prop :=
  ∃ ob b v, p = .pointer (some ⟨ob, 0, none⟩) ∧ Box w ob #[.bool fi, .int .i64 cp, v] l ∧ RowH Rep.frame e S W.heap.size w b v xs ∧ b ≠ some ob ∧ W.heap.size ≤ ob ∧ Below W.heap.size W w
theorem Outs.mk_ {e l : TypeId} {W w : World} {S : Nat → Prop} {ob : Nat} {fi : Bool} {cp : Int} {x0 x1 x2 v : Value} {b : Option Nat} {xs : List Fr} (hg : Box w ob #[x0, x1, x2] l) (hr : RowH Rep.frame e S W.heap.size w b v xs) (hob : W.heap.size ≤ ob) (hne : b ≠ some ob) (hhi : ∀ k, S k → k < W.heap.size) (hV : Below W.heap.size W w) :
    Outs e l W S fi cp xs (.pointer (some ⟨ob, 0, none⟩)) (((w.setCell ⟨ob, 0, none⟩ (.bool fi)).setCell ⟨ob, 1, none⟩ (.int .i64 cp)).setCell ⟨ob, 2, none⟩ v) := by
  refine ⟨ob, b, v, rfl, blk_set (blk_set (blk_set hg 0 _) 1 _) 2 _, hr.keep fun k hk => ?_, hne, hob, ((hV.setCell hob _).setCell hob _).setCell hob _⟩
  have hk' : k ≠ ob := by
    rcases hk with hk | hk
    · intro q; subst q; exact hne hk
    · have := hhi k hk; omega
  exact ((heap_setCell_other _ _ _ _ hk').trans (heap_setCell_other _ _ _ _ hk')).trans (heap_setCell_other _ _ _ _ hk')
end Go.Proofs.Ytkkbblpofhenpaa

/- How many frames of each kind a lane has; whether it may be. -/
namespace Go.Proofs.Ytkkbblpofhenpaa
open Go.RowKit Go.Maps

/-- The number c, as a map's element. -/
def num1 (c : Int) : DataW Unit := .lit (.int .i64 c)
/-- What a map of counts reads as. -/
def Tells (D : DataW Unit) (l : List Fr) : Prop := ∀ k : Int, D.atKey (.int .i64 k) (num1 0) = num1 (La.cnt k l)
def kinded (l : List Fr) : Prop := ∀ f ∈ l, 0 ≤ f.kind ∧ f.kind ≤ 6
theorem Tells.nil : Tells (.map []) [] := fun _ => rfl
theorem Tells.step {D : DataW Unit} {l : List Fr} {f : Fr} {c : Int} (h : Tells D l) (hm : IsMap D) (hk : WideAt.IsKeyLit (.int .i64 f.kind)) (hc : D.atKey (.int .i64 f.kind) (num1 0) = num1 c) (hl : l.length ≤ 1000000) : Tells (D.put (.int .i64 f.kind) (num1 (wrap64 (c + 1)))) (l ++ [f]) := by
  have hcc : c = La.cnt f.kind l := by
    have := (h f.kind).symm.trans hc
    simp only [num1, DataW.lit.injEq, Lit.int.injEq, true_and] at this
    exact this.symm
  have hle := La.cnt_le f.kind l
  intro k
  by_cases hkk : k = f.kind
  · subst hkk
    rw [atKey_put_same hm hk, La.cnt_snoc, if_pos rfl]
    have : wrap64 (c + 1) = ((La.cnt f.kind l + 1 : Nat) : Int) := by rw [hcc]; unfold wrap64; omega
    rw [this]
  · rw [atKey_put_other (by intro e; injection e with _ e; exact hkk e), h k, La.cnt_snoc, if_neg (Ne.symm hkk)]
    rfl
theorem kind_wf {k : Int} (h : 0 ≤ k ∧ k ≤ 6) : (Lit.int .i64 k).wf = true := WalkArith.wf_i64 (by omega)
theorem Try.zeroInt (w : World) : (zeroValue 3).run Try.prog w = .ok (.int .i64 0) w := by kernel_rfl

set_option maxRecDepth 100000 in
set_option maxHeartbeats 2000000 in
theorem lacounts_any (v : Value) (a : La) (w : World) (h : LaIs false w 0 w.heap.size v a) (hk : kinded a.l) (hn : a.l.length ≤ 1000000) : Calls Try.prog 61 #[v] w
    fun y w' => (∃ b n D, y = .returned (.map (some b)) ∧ w'.ownsMap Try.prog 3 (plainElem Try.prog 3) b n D ∧ Tells D a.l) ∧ Below w.heap.size w w' := by
  obtain ⟨A, c, rfl, h1⟩ := h
  have hl := h1.len_le
  have hmm := @run_makeMap Try.prog
  go_enter Try.func61, Try.ntmps61
  go_upto_region 1 with fail
  refine name_wp fun W0 hW0 => ?_
  have bx : Box W0 w.heap.size #[.bool a.fifo, .int .i64 a.cap, .slice A a.l.length c] 25 := hW0 ▸ Box.at' _ _ rfl
  have hB : Below w.heap.size w W0 := hW0 ▸ (Below.refl _ _).alloc (Nat.le_refl _) _
  clear hW0
  have hs := h1.at'
  clear h1
  obtain ⟨d0, d1, d2⟩ := three_cells bx
  have hbl := bx.lt
  have HW0 := Lib.hid hB.size
  go_wp2_with fail
  go_loopg [10] a.l.length (fun m i wr => ∃ j : Nat, ∃ D : DataW Unit, i = .int .i64 (j : Int) ∧ j ≤ a.l.length ∧ m = a.l.length - j ∧ wr.ownsMap Try.prog 3 (plainElem Try.prog 3) W0.heap.size j D ∧ Tells D (a.l.take j) ∧ Below w.heap.size w wr)
  case atStart => exact ⟨0, .map [], rfl, by omega, by omega, World.ownsMap_made _ _ _ _, Tells.nil, hB.trans ((Below.refl _ _).alloc hB.size _)⟩
  case round =>
    obtain ⟨j, D, rfl, hj, hm, hown, ht, hb⟩ := hrel
    have HM := Lib.hid hm; have HT := Lib.hid ht; clear hm ht d0 d1 d2 hbl bx
    by_cases hlt : j < a.l.length
    ·
      obtain ⟨x, hx⟩ := Pc.get_at hlt
      have hxw := kind_wf (hk x (List.mem_of_getElem? hx))
      obtain ⟨g, o, cA, cB, ck, cl, rfl, _, hg, hc, _⟩ := (hs.below hb (Nat.le_refl _)).frame hx
      have c0 := hc 0 _ rfl
      have c1 := hc 1 _ rfl
      have c2 := hc 2 _ rfl
      have c3 := hc 3 _ rfl
      have c4 := hc 4 _ rfl
      have c5 := hc 5 _ rfl
      have c6 := hc 6 _ rfl
      have c7 := hc 7 _ rfl
      have c8 := hc 8 _ rfl
      simp only [Nat.add_zero] at c0
      have HX := Lib.hid hx; clear hx hc hs
      have hgl : g < wr.heap.size := Nat.lt_of_lt_of_le hg hb.size
      have hkey := keyOf_int_mk (P := Try.prog) Try.underlying3 hxw
      have HKY := Lib.hid hkey; have HOWN := Lib.hid hown; clear hkey hown hxw
      go_wp2_with (first
              | (at_lookup; refine wpList_lookup_own_int _ rfl _ _ 108 rfl 3 3 .i64 (int_keyed Try.underlying3) Try.underlying108 Try.underlying3 (Try.zeroInt _) W0.heap.size j _ rfl (HOWN.out.alloc _) _ _ rfl HKY.out ?_; intro cc hat hwc)
              | (at_mapUpdate; refine wpList_mapUpdate_own _ rfl _ _ _ 108 rfl 3 3 (int_keyed Try.underlying3) Try.underlying108 _ W0.heap.size j _ rfl (HOWN.out.alloc _) (by unfold maxLen; omega) _ _ _ rfl rfl HKY.out _ [] (plainElem_int Try.underlying3 (wrap64_wf _)) ?_; intro w1 hown1 hgrow1)
              | fail)
      go_roundg (a.l.length - (j + 1))
      case rel =>
        have hst := HT.out.step (f := x) HOWN.out.isMap ((int_keyed Try.underlying3).key HKY.out) hat (by rw [List.length_take]; omega)
        rw [← Pc.take_next HX.out] at hst
        exact ⟨j + 1, _, by simp, by omega, rfl, hown1, hst, (hb.alloc hb.size _).grown hgrow1 (by have := hb.size; have := HW0.out; simp; omega) (fun q hq => by cases hq; exact HW0.out)⟩
      case measure => have := HM.out; omega
    ·
      rw [List.take_of_length_le (by omega)] at HT
      go_wp2_with fail
      go_ret
      exact ⟨⟨_, _, D, rfl, hown, HT.out⟩, hb⟩
end Go.Proofs.Ytkkbblpofhenpaa

/- slices.ContainsFunc over frames; whether a lane may be. -/
namespace Go.Proofs.Ytkkbblpofhenpaa
open Go.RowKit Go.Maps

theorem all_of_any {l : List Fr} (h : (l.any fun p => !Fr.right p) = false) {f : Fr} (hf : f ∈ l) : Fr.right f = true := by
  have := List.any_eq_false.1 h f hf
  simpa using this
theorem tell_eq {D : DataW Unit} {k c : Int} {n : Nat} (h : D.atKey (.int .i64 k) (.lit (.int .i64 0)) = .lit (.int .i64 c)) (h2 : D.atKey (.int .i64 k) (num1 0) = num1 n) : c = (n : Int) := by
  have := h.symm.trans h2
  simp only [num1, DataW.lit.injEq, Lit.int.injEq, true_and] at this
  exact this
theorem badFrame_any (v : Value) (p : Fr) (w : World) (h : FrIs false w 0 w.heap.size v p) : Calls Try.prog 59 #[v] w
    fun x w' => x = .returned (.bool (!Fr.right p)) ∧ Below w.heap.size w w' := by
  obtain ⟨b, hb⟩ : ∃ b, Fr.right p = b := ⟨_, rfl⟩
  obtain ⟨aA, aB, ak, al, he, _, _⟩ := id h
  subst he
  have hr := fun W (hw : FrIs false W 0 W.heap.size (.agg #[.int .i64 p.kind, .int .i64 p.epoch, .int .i64 p.seq, .int .i64 p.letter, .slice aA p.pieces.length ak, .int .i64 p.init, .int .i64 p.num, .int .i64 p.count, .slice aB p.path.length al]) p) => frright_any _ p W hw
  rw [hb] at hr ⊢
  have HR := Lib.hid hr; clear hr hb
  have hB : Below w.heap.size w (w.alloc (.cells #[.int .i64 p.kind, .int .i64 p.epoch, .int .i64 p.seq, .int .i64 p.letter, .slice aA p.pieces.length ak, .int .i64 p.init, .int .i64 p.num, .int .i64 p.count, .slice aB p.path.length al] 37)) := (Below.refl _ _).alloc (Nat.le_refl _) _
  have h' := h.next hB
  clear h
  have H := Lib.hid h'; clear h'
  go_enter Try.func59, Try.ntmps59
  go_wp2_with fail
  refine (HR.out _ H.out).mono ?_
  rintro z w1 ⟨rfl, hb⟩
  go_wp2_with fail
  go_ret
  exact ⟨rfl, hB.trans (hb.mono hB.size)⟩

set_option maxRecDepth 100000 in
set_option maxHeartbeats 1000000 in
theorem indexFrames_any (v : Value) (xs : List Fr) (w : World) (h : SliceIs Rep.frame false w 0 w.heap.size v xs) :
    Calls Try.prog 112 #[v, .func (.func 59) #[] #[]] w fun x w' => x = .returned (.int .i64 (Pc.idx (fun p => !Fr.right p) xs)) ∧ Below w.heap.size w w' := by
  obtain ⟨A, c, rfl, hl, hm, hA⟩ := h
  unfold maxLen at hm
  go_enter Try.func112, Try.ntmps112
  go_wp2_with fail
  go_loopg [5, 8] xs.length (fun k _ i wr => ∃ j : Nat, i = .int .i64 (j : Int) ∧ j ≤ xs.length ∧ k = xs.length - j ∧ Pc.clear (fun p => !Fr.right p) xs j ∧ Below w.heap.size w wr)
  case atStart => exact ⟨0, rfl, by omega, by omega, Pc.clear_zero _ _, Below.refl _ _⟩
  case round =>
    obtain ⟨j, rfl, hj, hk, hr, hb⟩ := hrel
    have HR := Lib.hid hr; clear hr
    have HK := Lib.hid hk; clear hk
    by_cases hlt : j < xs.length
    · obtain ⟨x, hx⟩ := Pc.get_at hlt
      obtain ⟨g, o, aA, aB, ak, al, rfl, _, hg, hc, hp⟩ := (SliceAt.below hA hb (Nat.le_refl _)).frame hx
      have c0 := hc 0 _ rfl
      have c1 := hc 1 _ rfl
      have c2 := hc 2 _ rfl
      have c3 := hc 3 _ rfl
      have c4 := hc 4 _ rfl
      have c5 := hc 5 _ rfl
      have c6 := hc 6 _ rfl
      have c7 := hc 7 _ rfl
      have c8 := hc 8 _ rfl
      simp only [Nat.add_zero] at c0
      have HX := Lib.hid hx; clear hx hc
      clear hA
      have hsz := hb.size
      have hbad := badFrame_any _ x wr (hp.widen (Nat.le_refl 0) hsz)
      obtain ⟨b, hbx⟩ : ∃ b, Fr.right x = b := ⟨_, rfl⟩
      rw [hbx] at hbad
      have HBAD := Lib.hid hbad; clear hbad hp
      go_wp2_with fail
      refine HBAD.out.mono ?_
      rintro e w1 ⟨rfl, hb1⟩
      replace hb := hb.trans (hb1.mono hsz)
      clear hb1 hsz c0 c1 c2 c3 c4 c5 c6 c7 c8
      cases b
      · have HB := Lib.hid hbx; clear hbx
        go_wp2_with fail
        go_ret
        exact ⟨by rw [Pc.clear_at HR.out HX.out (by rw [HB.out]; rfl)]; rfl, hb⟩
      · have HB := Lib.hid hbx; clear hbx
        go_wp2_with fail
        go_roundg (xs.length - (j + 1))
        case rel => exact ⟨j + 1, by simp, by omega, rfl, Pc.clear_next HR.out HX.out (by rw [HB.out]; rfl), hb⟩
        case measure => have := HK.out; omega
    · go_wp2_with fail
      go_ret
      have hj2 : j = xs.length := by omega
      subst hj2
      exact ⟨by rw [Pc.clear_all HR.out]; rfl, hb⟩

set_option maxRecDepth 100000 in
theorem containsFrames_any (v : Value) (xs : List Fr) (w : World) (h : SliceIs Rep.frame false w 0 w.heap.size v xs) :
    Calls Try.prog 60 #[v, .func (.func 59) #[] #[]] w fun x w' => x = .returned (.bool (xs.any fun p => !Fr.right p)) ∧ Below w.heap.size w w' := by
  have hi := indexFrames_any v xs w h
  have hg := Pc.idx_ge (fun p => !Fr.right p) xs
  generalize Pc.idx (fun p => !Fr.right p) xs = i at hi hg
  have HI := Lib.hid hi; clear hi h
  rw [← hg.2]
  clear hg
  go_enter Try.func60, Try.ntmps60
  go_wp2_with fail
  refine HI.out.mono ?_
  rintro e w1 ⟨rfl, hb⟩
  go_wp2_with fail
  go_ret
  exact ⟨rfl, hb⟩

set_option maxRecDepth 100000 in
set_option maxHeartbeats 2000000 in
theorem laright_low (v : Value) (a : La) (w : World) (h : LaIs false w 0 w.heap.size v a) (hc : a.cap < 1) : Calls Try.prog 16 #[v] w
    fun y w' => y = .returned (.bool false) ∧ Below w.heap.size w w' := by
  obtain ⟨A, c, rfl, h1⟩ := h
  have hl := h1.len_le
  go_enter Try.func16, Try.ntmps16
  go_upto_region 1 with fail
  refine name_wp fun W0 hW0 => ?_
  have bx : Box W0 w.heap.size #[.bool a.fifo, .int .i64 a.cap, .slice A a.l.length c] 25 := hW0 ▸ Box.at' _ _ rfl
  have hB : Below w.heap.size w W0 := hW0 ▸ (Below.refl _ _).alloc (Nat.le_refl _) _
  clear hW0
  have hs := (h1.below hB (Nat.le_refl _)).widen (Nat.le_refl 0) hB.size
  clear h1
  obtain ⟨d0, d1, d2⟩ := three_cells bx
  go_wp2_with fail
  go_ret
  exact ⟨rfl, hB⟩

set_option maxRecDepth 100000 in
set_option maxHeartbeats 2000000 in
theorem laright_high (v : Value) (a : La) (w : World) (h : LaIs false w 0 w.heap.size v a) (hc : ¬ a.cap < 1) (hc2 : a.cap > 20) : Calls Try.prog 16 #[v] w
    fun y w' => y = .returned (.bool false) ∧ Below w.heap.size w w' := by
  obtain ⟨A, c, rfl, h1⟩ := h
  have hl := h1.len_le
  go_enter Try.func16, Try.ntmps16
  go_upto_region 1 with fail
  refine name_wp fun W0 hW0 => ?_
  have bx : Box W0 w.heap.size #[.bool a.fifo, .int .i64 a.cap, .slice A a.l.length c] 25 := hW0 ▸ Box.at' _ _ rfl
  have hB : Below w.heap.size w W0 := hW0 ▸ (Below.refl _ _).alloc (Nat.le_refl _) _
  clear hW0
  have hs := (h1.below hB (Nat.le_refl _)).widen (Nat.le_refl 0) hB.size
  clear h1
  obtain ⟨d0, d1, d2⟩ := three_cells bx
  go_wp2_with fail
  go_ret
  exact ⟨rfl, hB⟩

set_option maxRecDepth 100000 in
set_option maxHeartbeats 2000000 in
theorem laright_bad (v : Value) (a : La) (w : World) (h : LaIs false w 0 w.heap.size v a) (hc : ¬ a.cap < 1) (hc2 : ¬ a.cap > 20) (hq : (a.l.any fun p => !Fr.right p) = true) : Calls Try.prog 16 #[v] w
    fun y w' => y = .returned (.bool false) ∧ Below w.heap.size w w' := by
  obtain ⟨A, c, rfl, h1⟩ := h
  have hl := h1.len_le
  have HQ := Lib.hid hq; clear hq
  go_enter Try.func16, Try.ntmps16
  go_upto_region 1 with fail
  refine name_wp fun W0 hW0 => ?_
  have bx : Box W0 w.heap.size #[.bool a.fifo, .int .i64 a.cap, .slice A a.l.length c] 25 := hW0 ▸ Box.at' _ _ rfl
  have hB : Below w.heap.size w W0 := hW0 ▸ (Below.refl _ _).alloc (Nat.le_refl _) _
  clear hW0
  have hs := (h1.below hB (Nat.le_refl _)).widen (Nat.le_refl 0) hB.size
  clear h1
  obtain ⟨d0, d1, d2⟩ := three_cells bx
  go_wp2_with fail
  refine (containsFrames_any _ a.l _ hs).mono ?_
  rw [HQ.out]
  rintro z w1 ⟨rfl, hb⟩
  replace hB := hB.trans (hb.mono hB.size)
  go_wp2_with fail
  go_ret
  exact ⟨rfl, hB⟩

set_option maxRecDepth 100000 in
set_option maxHeartbeats 2000000 in
theorem laright_good (v : Value) (a : La) (w : World) (h : LaIs false w 0 w.heap.size v a) (hn : a.l.length ≤ 1000000) (hc : ¬ a.cap < 1) (hc2 : ¬ a.cap > 20) (hq : (a.l.any fun p => !Fr.right p) = false) : Calls Try.prog 16 #[v] w
    fun y w' => y = .returned (.bool (decide ((La.cnt 0 a.l : Int) ≤ a.cap) && decide ((a.l.length : Int) - (La.cnt 0 a.l : Int) ≤ 5))) ∧ Below w.heap.size w w' := by
  obtain ⟨A, c, rfl, h1⟩ := h
  have hl := h1.len_le
  have HQ := Lib.hid hq; clear hq
  obtain ⟨n, hnn⟩ : ∃ n : Nat, La.cnt 0 a.l = n := ⟨_, rfl⟩
  have hcl := La.cnt_le 0 a.l
  rw [hnn] at hcl ⊢
  have HN := Lib.hid hnn; clear hnn
  go_enter Try.func16, Try.ntmps16
  go_upto_region 1 with fail
  refine name_wp fun W0 hW0 => ?_
  have bx : Box W0 w.heap.size #[.bool a.fifo, .int .i64 a.cap, .slice A a.l.length c] 25 := hW0 ▸ Box.at' _ _ rfl
  have hB : Below w.heap.size w W0 := hW0 ▸ (Below.refl _ _).alloc (Nat.le_refl _) _
  clear hW0
  have hs := (h1.below hB (Nat.le_refl _)).widen (Nat.le_refl 0) hB.size
  clear h1
  obtain ⟨d0, d1, d2⟩ := three_cells bx
  have hls : LaIs false W0 0 W0.heap.size (.agg #[.bool a.fifo, .int .i64 a.cap, .slice A a.l.length c]) a := ⟨A, c, rfl, hs⟩
  have hkd : kinded a.l := fun f hf => Fr.right_kind (all_of_any HQ.out hf)
  have HKD := Lib.hid hkd; clear hkd
  go_wp2_with fail
  refine (containsFrames_any _ a.l _ hs).mono ?_
  rw [HQ.out]
  rintro z w1 ⟨rfl, hb⟩
  replace hB := hB.trans (hb.mono hB.size)
  replace bx := bx.next hb; replace hls := hls.next hb
  clear hb d0 d1 d2
  obtain ⟨d0, d1, d2⟩ := three_cells bx
  go_wp2_with fail
  refine (lacounts_any _ a _ hls HKD.out hn).mono ?_
  rintro z w2 ⟨⟨b, n2, D, rfl, hown, htell⟩, hb⟩
  replace hB := hB.trans (hb.mono hB.size)
  replace bx := bx.next hb
  clear hb d0 d1 d2
  obtain ⟨d0, d1, d2⟩ := three_cells bx
  have ht0 := htell 0
  rw [HN.out] at ht0
  have HT := Lib.hid ht0; have HOWN := Lib.hid hown; clear ht0 htell hown hs hls
  go_wp2_with (at_lookup; refine wpList_lookup_own_int _ rfl _ _ 108 rfl 3 3 .i64 (int_keyed Try.underlying3) Try.underlying108 Try.underlying3 (Try.zeroInt _) b n2 _ rfl HOWN.out _ _ rfl (keyOf_int_mk (P := Try.prog) Try.underlying3 (by decide)) ?_; intro cc hat hwc; obtain rfl : cc = (n : Int) := tell_eq hat HT.out; clear hat hwc)
  all_goals go_ret
  all_goals first | exact ⟨by rw [decide_eq_false (show ¬ ((n : Int) ≤ a.cap) by omega)]; rfl, hB⟩ | exact ⟨by rw [decide_eq_true (show (n : Int) ≤ a.cap by omega)]; rfl, hB⟩

theorem La.all_any (l : List Fr) : (l.any fun p => !Fr.right p) = !(l.all Fr.right) := by
  induction l with
  | nil => rfl
  | cons x l ih => rw [List.any_cons, List.all_cons, ih]; cases Fr.right x <;> cases l.all Fr.right <;> rfl
/-- Whether a lane may be. -/
theorem laright_any (v : Value) (a : La) (w : World) (h : LaIs false w 0 w.heap.size v a) (hn : a.l.length ≤ 1000000) : Calls Try.prog 16 #[v] w
    fun y w' => y = .returned (.bool (La.right a)) ∧ Below w.heap.size w w' := by
  unfold La.right La.roomy
  by_cases hc : a.cap < 1
  · rw [decide_eq_false (show ¬ 1 ≤ a.cap by omega), Bool.false_and, Bool.and_false]
    exact laright_low v a w h hc
  · by_cases hc2 : a.cap > 20
    · rw [decide_eq_false (show ¬ a.cap ≤ 20 by omega), Bool.false_and, Bool.and_false, Bool.and_false]
      exact laright_high v a w h hc hc2
    · cases hq : a.l.all Fr.right with
      | false =>
        rw [Bool.false_and]
        exact laright_bad v a w h hc hc2 (by rw [La.all_any, hq]; rfl)
      | true =>
        rw [decide_eq_true (show 1 ≤ a.cap by omega), decide_eq_true (show a.cap ≤ 20 by omega), Bool.true_and, Bool.true_and, Bool.true_and]
        exact laright_good v a w h hn hc hc2 (by rw [La.all_any, hq]; rfl)
end Go.Proofs.Ytkkbblpofhenpaa

/- A slice of the call's own that grows; its elements lead to blocks ahead of hi, or to new ones. Nothing of the program. -/
namespace Go.Proofs.Ytkkbblpofhenpaa
open Go.RowKit

/-- v: a row of the call's own, in blocks from B on, that reads as xs; its elements lead to blocks ahead of hi, or from B on. -/
def AcG {α : Type} (r : Rep α) (e : TypeId) (hi B : Nat) (w : World) (v : Value) (xs : List α) : Prop :=
  ∃ cells S, w.ownsRow B e r.size v xs.length cells ∧ r.all false w S cells xs ∧ (∀ b, S b → (b < hi ∨ B ≤ b) ∧ b < w.heap.size) ∧ (∀ b, v.ownBlock = some b → ¬ S b)
section
variable {α : Type} {r : Rep α} {e : TypeId} {hi B : Nat} {w w1 : World} {v : Value} {xs : List α} {x : α} {cs : List Value}
theorem AcG.nil (r : Rep α) (e : TypeId) (hi B : Nat) (w : World) : AcG r e hi B w (.slice none 0 0) [] :=
  ⟨[], fun _ => False, World.ownsRow_nil _ _ _ _, rfl, fun _ h => h.elim, fun _ h => by simp [Value.ownBlock] at h⟩
theorem AcG.empty (r : Rep α) (e : TypeId) (hi : Nat) (w : World) : AcG r e hi w.heap.size (w.alloc (.cells #[] e)) (.slice (some ⟨w.heap.size, 0, none⟩) 0 0) [] :=
  ⟨[], fun _ => False, own_lit (size := r.size) w.heap.size e 0 [] (by simp) (Nat.le_refl _) (by unfold maxLen; omega), rfl, fun _ h => h.elim, fun _ _ h => h⟩
theorem AcG.slice (h : AcG r e hi B w v xs) : SliceOn r false w (fun b => (b < hi ∨ B ≤ b) ∧ b < w.heap.size) v xs := by
  obtain ⟨cells, S, h1, h2, h3, h4⟩ := h
  exact SliceOn.of_own (base := B) (e := e) h1 (Rep.all_widen (fun b hb => h3 b hb) h2) (fun b hb => ⟨.inr (h1.lt b hb).1, (h1.lt b hb).2⟩)
theorem AcG.move (h : AcG r e hi B w v xs) (hk : ∀ b, (b < hi ∨ B ≤ b) → b < w.heap.size → w1.heap[b]? = w.heap[b]?) (hs : w.heap.size ≤ w1.heap.size) : AcG r e hi B w1 v xs := by
  obtain ⟨cells, S, h1, h2, h3, h4⟩ := h
  exact ⟨cells, S, own_move h1 (fun b k1 k2 => hk b (.inr k1) k2), Rep.all_keep (fun b hb => hk b (h3 b hb).1 (h3 b hb).2) h2, fun b hb => ⟨(h3 b hb).1, Nat.lt_of_lt_of_le (h3 b hb).2 hs⟩, h4⟩
theorem AcG.below (h : AcG r e hi B w v xs) (hb : Below w.heap.size w w1) : AcG r e hi B w1 v xs := h.move (fun b _ h2 => hb.block b h2) hb.size
/-- One more element, which leads to blocks ahead of hi, or to what was made since. -/
theorem AcG.step (h : AcG r e hi B w v xs) (hk : ∀ b, (b < hi ∨ B ≤ b) → b < w.heap.size → w1.heap[b]? = w.heap[b]?) (hs : w.heap.size ≤ w1.heap.size) (hB : B ≤ w.heap.size) (hh : hi ≤ B)
    (hcs : r.is false w1 (fun b => (b < hi ∨ w.heap.size ≤ b) ∧ b < w1.heap.size) cs x) :
    ∃ cells, w1.ownsRow B e r.size v xs.length cells ∧ (∀ v' w2, w2.ownsRow B e r.size v' (xs.length + 1) (cells ++ cs) → w1.grownBy w2 v.ownBlock → (v'.ownBlock = v.ownBlock ∨ ∃ n, v'.ownBlock = some n ∧ w1.heap.size ≤ n) → AcG r e hi B w2 v' (xs ++ [x])) := by
  obtain ⟨cells, S, h1, h2, h3, h4⟩ := h
  have own1 := own_move h1 (fun b k1 k2 => hk b (.inr k1) k2)
  have all1 : r.all false w1 S cells xs := Rep.all_keep (fun b hb => hk b (h3 b hb).1 (h3 b hb).2) h2
  refine ⟨cells, own1, fun v' w2 ho hg ha => ?_⟩
  have k1 : ∀ b, (S b ∨ (b < hi ∨ w.heap.size ≤ b) ∧ b < w1.heap.size) → w2.heap[b]? = w1.heap[b]? := by
    rintro b (hb | hb)
    · exact hg.block b (Nat.lt_of_lt_of_le (h3 b hb).2 hs) (fun he => h4 b he.symm hb)
    · refine hg.block b hb.2 (fun he => ?_)
      have := h1.lt b he.symm
      have := hb.1
      omega
  have hnew : r.all false w2 (fun b => S b ∨ (b < hi ∨ w.heap.size ≤ b) ∧ b < w1.heap.size) (cells ++ cs) (xs ++ [x]) :=
    Rep.all_snoc (Rep.all_keep k1 (Rep.all_widen (fun b hb => .inl hb) all1)) (r.keep (r.widen hcs (fun b hb => .inr hb)) k1)
  refine ⟨cells ++ cs, _, by rw [List.length_append]; exact ho, hnew, ?_, ?_⟩
  · rintro b (hb | hb)
    · exact ⟨(h3 b hb).1, Nat.lt_of_lt_of_le (h3 b hb).2 (Nat.le_trans hs hg.size)⟩
    · exact ⟨by have := hb.1; omega, Nat.lt_of_lt_of_le hb.2 hg.size⟩
  · intro b hb hS
    rcases ha with ha | ⟨n, ha, hn⟩
    · rw [ha] at hb
      have hl := h1.lt b hb
      rcases hS with hS | hS
      · exact h4 b hb hS
      · have := hS.1; omega
    · rw [ha] at hb
      injection hb with hb
      subst hb
      rcases hS with hS | hS
      · have := (h3 _ hS).2; omega
      · have := hS.2; omega
end
section
variable {P : Program} {w : World} {ops : Array Oper} {rest : List Oper} {o : Oper} {a : Act} {Q : Exit → Act → World → Prop}
/-- 'append(s, x)': x's cells lie in a block made on the spot. -/
theorem wpList_acG {α : Type} {r : Rep α} {w0 : World} {xs : List α} {y : α} (hgd : o.guard = none) (s x : Operand) (t : TypeId) (ho : o.op = .call { callee := .builtin .append, args := #[s, x], argTypes := #[t, t] })
    (hi B : Nat) (e : TypeId) {z : Value} {bytes : Nat} (hinfo : (P.info? e).map (fun i => (i.zero, i.size, i.bytes)) = some (some z, r.size, bytes)) (ht : P.underlying t = some (.slice e))
    (hzs : z.cells.size = r.size) (hby : bytes ≤ 1000) (v : Value) (hs : a.eval s = v) (hacc : AcG r e hi B w0 v xs) (hk : ∀ b, b < w0.heap.size → w.heap[b]? = w0.heap[b]?) (hsz : w0.heap.size ≤ w.heap.size) (hB : B ≤ w0.heap.size) (hh : hi ≤ B)
    (c H : Nat) (cs : List Value) (hx : a.eval x = .slice (some ⟨H, 0, none⟩) 1 c) (hH : w.heap.size = H) (hcs : r.is false w (fun b => (b < hi ∨ w0.heap.size ≤ b) ∧ b < w.heap.size) cs y) (hn : xs.length ≤ 1000000)
    (h : ∀ v' w', AcG r e hi B w' v' (xs ++ [y]) → w.grownBy w' v.ownBlock → Below B w w' → wpList P ops Q rest (a.put o.dst v') w') : wpList P ops Q (o :: rest) a (w.alloc (.cells cs.toArray e)) := by
  obtain ⟨cells, hown, hnext⟩ := hacc.step (fun b _ q => hk b q) hsz hB hh hcs
  refine wpList_appendB hgd s x t ho B e hinfo ht hzs r.pos v xs.length cells hs hown 1 c H cs hx hH (by rw [r.len hcs]; omega) (r.one hcs) (by unfold maxLen; omega) (Nat.le_trans (Nat.mul_le_mul (show xs.length + 1 ≤ 1000001 by omega) hby) (by omega)) (by omega) ?_
  intro v' w' h1 h2 h3 h4
  refine h v' w' (hnext v' w' h1 h2 ?_) h2 h3
  rcases h4 with h4 | h4
  · exact .inl h4
  · exact .inr ⟨_, h4, by omega⟩
end
end Go.Proofs.Ytkkbblpofhenpaa
