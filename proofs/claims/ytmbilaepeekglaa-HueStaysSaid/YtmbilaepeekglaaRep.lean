/- What memory reads as, in a set S of blocks: numbers, messages, lists of what can be read, lists of lists. Nothing of the program. -/
import Derived.Test.YtmbilaepeekglaaH
import Derived.Maps.AppendAt
import Derived.Deep.AppendLies
namespace Go.Proofs.Ytmbilaepeekglaa
open Go.RowKit

/-- How some cells of a world read as data; what they lead to lies in the blocks S; 'fr': may it be written? -/
structure Rep (α : Type) where
  size : Nat
  pos : 0 < size
  is : Bool → World → (Nat → Prop) → List Value → α → Prop
  len : ∀ {fr w S cs a}, is fr w S cs a → cs.length = size
  keep : ∀ {fr w w' S cs a}, is fr w S cs a → (∀ b, S b → w'.heap[b]? = w.heap[b]?) → is fr w' S cs a
  widen : ∀ {fr w S S' cs a}, is fr w S cs a → (∀ b, S b → S' b) → is fr w S' cs a
  soft : ∀ {fr w S cs a}, is fr w S cs a → is false w S cs a
  one : ∀ {fr w S cs a}, is fr w S cs a → ∀ u ∈ cs, u.oneCell' = true

/-- The blocks lo .. hi. -/
def rng (lo hi : Nat) (b : Nat) : Prop := lo ≤ b ∧ b < hi
theorem rng_widen {lo hi lo' hi' : Nat} (h1 : lo' ≤ lo) (h2 : hi ≤ hi') : ∀ b, rng lo hi b → rng lo' hi' b := fun _ h => ⟨Nat.le_trans h1 h.1, Nat.lt_of_lt_of_le h.2 h2⟩

section
variable {α : Type} (r : Rep α)
/-- Cells, one behind the other, that read as a list. -/
def Rep.all (fr : Bool) (w : World) (S : Nat → Prop) : List Value → List α → Prop
  | cells, [] => cells = []
  | cells, x :: xs => ∃ cs rest, cells = cs ++ rest ∧ r.is fr w S cs x ∧ Rep.all fr w S rest xs
end
section
variable {α : Type} {r : Rep α} {fr : Bool} {w w' : World} {S S' : Nat → Prop} {cells : List Value} {xs : List α}
theorem Rep.all_len : ∀ {xs : List α} {cells : List Value}, r.all fr w S cells xs → cells.length = xs.length * r.size := by
  intro xs
  induction xs with
  | nil => intro cells h; simp only [Rep.all] at h; subst h; simp
  | cons x xs ih =>
    intro cells h
    obtain ⟨cs, rest, rfl, h1, h2⟩ := h
    rw [List.length_append, r.len h1, ih h2, List.length_cons, Nat.succ_mul, Nat.add_comm]
theorem Rep.all_keep (hk : ∀ b, S b → w'.heap[b]? = w.heap[b]?) : ∀ {xs : List α} {cells : List Value}, r.all fr w S cells xs → r.all fr w' S cells xs := by
  intro xs
  induction xs with
  | nil => intro cells h; exact h
  | cons x xs ih =>
    intro cells h
    obtain ⟨cs, rest, rfl, h1, h2⟩ := h
    exact ⟨cs, rest, rfl, r.keep h1 hk, ih h2⟩
theorem Rep.all_widen (h1 : ∀ b, S b → S' b) : ∀ {xs : List α} {cells : List Value}, r.all fr w S cells xs → r.all fr w S' cells xs := by
  intro xs
  induction xs with
  | nil => intro cells h; exact h
  | cons x xs ih =>
    intro cells h
    obtain ⟨cs, rest, rfl, h3, h4⟩ := h
    exact ⟨cs, rest, rfl, r.widen h3 h1, ih h4⟩
theorem Rep.all_soft : ∀ {xs : List α} {cells : List Value}, r.all fr w S cells xs → r.all false w S cells xs := by
  intro xs
  induction xs with
  | nil => intro cells h; exact h
  | cons x xs ih =>
    intro cells h
    obtain ⟨cs, rest, rfl, h3, h4⟩ := h
    exact ⟨cs, rest, rfl, r.soft h3, ih h4⟩
theorem Rep.all_one : ∀ {xs : List α} {cells : List Value}, r.all fr w S cells xs → ∀ u ∈ cells, u.oneCell' = true := by
  intro xs
  induction xs with
  | nil => intro cells h; simp only [Rep.all] at h; subst h; simp
  | cons x xs ih =>
    intro cells h
    obtain ⟨cs, rest, rfl, h3, h4⟩ := h
    intro u hu
    rcases List.mem_append.1 hu with hu | hu
    · exact r.one h3 u hu
    · exact ih h4 u hu
theorem Rep.all_append : ∀ {xs ys : List α} {c1 c2 : List Value}, r.all fr w S c1 xs → r.all fr w S c2 ys → r.all fr w S (c1 ++ c2) (xs ++ ys) := by
  intro xs
  induction xs with
  | nil => intro ys c1 c2 h h2; simp only [Rep.all] at h; subst h; simpa using h2
  | cons x xs ih =>
    intro ys c1 c2 h h2
    obtain ⟨cs, rest, rfl, h3, h4⟩ := h
    exact ⟨cs, rest ++ c2, by simp, h3, ih h4 h2⟩
theorem Rep.all_single {cs : List Value} {x : α} (h : r.is fr w S cs x) : r.all fr w S cs [x] := ⟨cs, [], by simp, h, rfl⟩
theorem Rep.all_snoc {cs : List Value} {x : α} (h : r.all fr w S cells xs) (h1 : r.is fr w S cs x) : r.all fr w S (cells ++ cs) (xs ++ [x]) := Rep.all_append h (Rep.all_single h1)
theorem Rep.all_take : ∀ (k : Nat) {xs : List α} {cells : List Value}, r.all fr w S cells xs → r.all fr w S (cells.take (k * r.size)) (xs.take k) := by
  intro k
  induction k with
  | zero => intro xs cells _; simp [Rep.all]
  | succ k ih =>
    intro xs cells h
    cases xs with
    | nil => simp only [Rep.all] at h; subst h; simp [Rep.all]
    | cons x xs =>
      obtain ⟨cs, rest, rfl, h3, h4⟩ := h
      have hl := r.len h3
      rw [List.take_succ_cons, List.take_append]
      have e1 : cs.take ((k + 1) * r.size) = cs := List.take_of_length_le (by rw [hl, Nat.succ_mul]; omega)
      have e2 : (k + 1) * r.size - cs.length = k * r.size := by rw [hl, Nat.succ_mul]; omega
      rw [e1, e2]
      exact ⟨cs, _, rfl, h3, ih h4⟩
theorem Rep.all_drop : ∀ (k : Nat) {xs : List α} {cells : List Value}, r.all fr w S cells xs → r.all fr w S (cells.drop (k * r.size)) (xs.drop k) := by
  intro k
  induction k with
  | zero => intro xs cells h; simpa using h
  | succ k ih =>
    intro xs cells h
    cases xs with
    | nil => simp only [Rep.all] at h; subst h; simp [Rep.all]
    | cons x xs =>
      obtain ⟨cs, rest, rfl, h3, h4⟩ := h
      have hl := r.len h3
      rw [List.drop_succ_cons, List.drop_append]
      have e1 : cs.drop ((k + 1) * r.size) = [] := List.drop_eq_nil_of_le (by rw [hl, Nat.succ_mul]; omega)
      have e2 : (k + 1) * r.size - cs.length = k * r.size := by rw [hl, Nat.succ_mul]; omega
      rw [e1, e2, List.nil_append]
      exact ih h4
theorem Rep.all_at : ∀ {xs : List α} {cells : List Value} {k : Nat} {x : α}, r.all fr w S cells xs → xs[k]? = some x → ∃ cs, r.is fr w S cs x ∧ ∀ j u, cs[j]? = some u → cells[k * r.size + j]? = some u := by
  intro xs
  induction xs with
  | nil => intro cells k x _ hx; simp at hx
  | cons y ys ih =>
    intro cells k x h hx
    obtain ⟨cs, rest, rfl, h3, h4⟩ := h
    have hl := r.len h3
    cases k with
    | zero =>
      simp only [List.getElem?_cons_zero, Option.some.injEq] at hx
      subst hx
      refine ⟨cs, h3, fun j u hj => ?_⟩
      have hlt : j < cs.length := (List.getElem?_eq_some_iff.1 hj).1
      rw [Nat.zero_mul, Nat.zero_add, List.getElem?_append_left hlt]
      exact hj
    | succ k =>
      simp only [List.getElem?_cons_succ] at hx
      obtain ⟨c2, h5, h6⟩ := ih h4 hx
      refine ⟨c2, h5, fun j u hj => ?_⟩
      rw [List.getElem?_append_right (by rw [hl, Nat.succ_mul]; omega), show (k + 1) * r.size + j - cs.length = k * r.size + j from by rw [hl, Nat.succ_mul]; omega]
      exact h6 j u hj
end

section
variable {α : Type} (r : Rep α)
/-- The array of a slice (its address A) reads as a list. -/
def AtOn (fr : Bool) (w : World) (S : Nat → Prop) (A : Option Addr) (xs : List α) : Prop :=
  ∃ cells, r.all fr w S cells xs ∧ (0 < xs.length → ∃ g o, A = some ⟨g, o, none⟩ ∧ S g ∧ ∀ j u, cells[j]? = some u → w.cell? ⟨g, o + j, none⟩ = some u ∧ (fr = true → w.frozen? ⟨g, o + j, none⟩ = false))
/-- A slice reads as a list. -/
def SliceOn (fr : Bool) (w : World) (S : Nat → Prop) (v : Value) (xs : List α) : Prop :=
  ∃ A c, v = .slice A xs.length c ∧ xs.length ≤ c ∧ c ≤ maxLen ∧ AtOn r fr w S A xs
def SliceAt (fr : Bool) (w : World) (lo hi : Nat) (A : Option Addr) (xs : List α) : Prop := AtOn r fr w (rng lo hi) A xs
def SliceIs (fr : Bool) (w : World) (lo hi : Nat) (v : Value) (xs : List α) : Prop := ∃ A c, v = .slice A xs.length c ∧ xs.length ≤ c ∧ c ≤ maxLen ∧ SliceAt r fr w lo hi A xs
end
section
variable {α : Type} {r : Rep α} {fr : Bool} {w w' : World} {S S' : Nat → Prop} {lo hi lo' hi' : Nat} {A : Option Addr} {v : Value} {xs : List α}
theorem SliceIs.on (h : SliceIs r fr w lo hi v xs) : SliceOn r fr w (rng lo hi) v xs := h
theorem SliceOn.is_ (h : SliceOn r fr w (rng lo hi) v xs) : SliceIs r fr w lo hi v xs := h
theorem frozen_of_block {w w' : World} {g o : Nat} (h : w'.heap[g]? = w.heap[g]?) : w'.frozen? ⟨g, o, none⟩ = w.frozen? ⟨g, o, none⟩ := by
  simp only [World.frozen?, h]
theorem cell_of_block {w w' : World} {g o : Nat} (h : w'.heap[g]? = w.heap[g]?) : w'.cell? ⟨g, o, none⟩ = w.cell? ⟨g, o, none⟩ := World.cell?_of_block h
theorem AtOn.keep (h : AtOn r fr w S A xs) (hk : ∀ b, S b → w'.heap[b]? = w.heap[b]?) : AtOn r fr w' S A xs := by
  obtain ⟨cells, h1, h2⟩ := h
  refine ⟨cells, Rep.all_keep hk h1, fun hn => ?_⟩
  obtain ⟨g, o, rfl, h3, h5⟩ := h2 hn
  refine ⟨g, o, rfl, h3, fun j u hj => ?_⟩
  have hb := hk g h3
  rw [cell_of_block hb, frozen_of_block hb]
  exact h5 j u hj
theorem AtOn.widen (h : AtOn r fr w S A xs) (h1 : ∀ b, S b → S' b) : AtOn r fr w S' A xs := by
  obtain ⟨cells, h3, h4⟩ := h
  refine ⟨cells, Rep.all_widen h1 h3, fun hn => ?_⟩
  obtain ⟨g, o, rfl, h5, h7⟩ := h4 hn
  exact ⟨g, o, rfl, h1 _ h5, h7⟩
theorem AtOn.soft (h : AtOn r fr w S A xs) : AtOn r false w S A xs := by
  obtain ⟨cells, h3, h4⟩ := h
  refine ⟨cells, Rep.all_soft h3, fun hn => ?_⟩
  obtain ⟨g, o, rfl, h5, h7⟩ := h4 hn
  exact ⟨g, o, rfl, h5, fun j u hj => ⟨(h7 j u hj).1, fun h => by cases h⟩⟩
theorem SliceOn.keep (h : SliceOn r fr w S v xs) (hk : ∀ b, S b → w'.heap[b]? = w.heap[b]?) : SliceOn r fr w' S v xs := by
  obtain ⟨A, c, h1, h2, h3, h4⟩ := h
  exact ⟨A, c, h1, h2, h3, h4.keep hk⟩
theorem SliceOn.widen (h : SliceOn r fr w S v xs) (h1 : ∀ b, S b → S' b) : SliceOn r fr w S' v xs := by
  obtain ⟨A, c, h3, h4, h5, h6⟩ := h
  exact ⟨A, c, h3, h4, h5, h6.widen h1⟩
theorem SliceOn.soft (h : SliceOn r fr w S v xs) : SliceOn r false w S v xs := by
  obtain ⟨A, c, h3, h4, h5, h6⟩ := h
  exact ⟨A, c, h3, h4, h5, h6.soft⟩
theorem SliceOn.none_ : SliceOn r fr w S (.slice none 0 0) [] := ⟨none, 0, rfl, Nat.le_refl _, by unfold maxLen; omega, [], rfl, fun h => absurd h (by simp)⟩
theorem SliceAt.keep (h : SliceAt r fr w lo hi A xs) (hk : ∀ b, lo ≤ b → b < hi → w'.heap[b]? = w.heap[b]?) : SliceAt r fr w' lo hi A xs := AtOn.keep h fun b hb => hk b hb.1 hb.2
theorem SliceAt.widen (h : SliceAt r fr w lo hi A xs) (h1 : lo' ≤ lo) (h2 : hi ≤ hi') : SliceAt r fr w lo' hi' A xs := AtOn.widen h (rng_widen h1 h2)
theorem SliceAt.soft (h : SliceAt r fr w lo hi A xs) : SliceAt r false w lo hi A xs := AtOn.soft h
theorem SliceAt.below {B : Nat} (h : SliceAt r fr w lo hi A xs) (hb : Below B w w') (hB : hi ≤ B) : SliceAt r fr w' lo hi A xs := h.keep fun b _ h2 => hb.block b (by omega)
theorem AtOn.at_ {k : Nat} {x : α} (h : AtOn r fr w S A xs) (hx : xs[k]? = some x) :
    ∃ g o cs, A = some ⟨g, o, none⟩ ∧ S g ∧ r.is fr w S cs x ∧ ∀ j u, cs[j]? = some u → w.cell? ⟨g, o + (k * r.size + j), none⟩ = some u ∧ (fr = true → w.frozen? ⟨g, o + (k * r.size + j), none⟩ = false) := by
  obtain ⟨cells, h1, h2⟩ := h
  have hlt : k < xs.length := (List.getElem?_eq_some_iff.1 hx).1
  obtain ⟨g, o, rfl, h3, h5⟩ := h2 (by omega)
  obtain ⟨cs, h6, h7⟩ := Rep.all_at h1 hx
  exact ⟨g, o, cs, rfl, h3, h6, fun j u hj => h5 _ _ (h7 j u hj)⟩
theorem SliceIs.keep (h : SliceIs r fr w lo hi v xs) (hk : ∀ b, lo ≤ b → b < hi → w'.heap[b]? = w.heap[b]?) : SliceIs r fr w' lo hi v xs := by
  obtain ⟨A, c, h1, h2, h3, h4⟩ := h
  exact ⟨A, c, h1, h2, h3, h4.keep hk⟩
theorem SliceIs.below {B : Nat} (h : SliceIs r fr w lo hi v xs) (hb : Below B w w') (hB : hi ≤ B) : SliceIs r fr w' lo hi v xs := h.keep fun b _ h2 => hb.block b (by omega)
theorem SliceIs.widen (h : SliceIs r fr w lo hi v xs) (h1 : lo' ≤ lo) (h2 : hi ≤ hi') : SliceIs r fr w lo' hi' v xs := by
  obtain ⟨A, c, h3, h4, h5, h6⟩ := h
  exact ⟨A, c, h3, h4, h5, h6.widen h1 h2⟩
theorem SliceIs.soft (h : SliceIs r fr w lo hi v xs) : SliceIs r false w lo hi v xs := by
  obtain ⟨A, c, h3, h4, h5, h6⟩ := h
  exact ⟨A, c, h3, h4, h5, h6.soft⟩
theorem SliceIs.none_ : SliceIs r fr w lo hi (.slice none 0 0) [] := ⟨none, 0, rfl, Nat.le_refl _, by unfold maxLen; omega, [], rfl, fun h => absurd h (by simp)⟩
theorem SliceIs.nil_any (A : Option Addr) (c : Nat) (hc : c ≤ maxLen) : SliceIs r fr w lo hi (.slice A 0 c) [] := ⟨A, c, rfl, Nat.zero_le _, hc, [], rfl, fun h => absurd h (by simp)⟩
/-- A cut 's[:k]'. -/
theorem AtOn.take (k : Nat) (h : AtOn r fr w S A xs) : AtOn r fr w S A (xs.take k) := by
  obtain ⟨cells, h3, h4⟩ := h
  refine ⟨cells.take (k * r.size), Rep.all_take k h3, fun hn => ?_⟩
  obtain ⟨g, o, rfl, h5, h7⟩ := h4 (by simp at hn; omega)
  refine ⟨g, o, rfl, h5, fun j u hj => h7 j u ?_⟩
  rw [List.getElem?_take] at hj
  split at hj
  · exact hj
  · cases hj
theorem SliceAt.take (k : Nat) (h : SliceAt r fr w lo hi A xs) : SliceAt r fr w lo hi A (xs.take k) := AtOn.take k h
/-- What a row of the call's own reads as. -/
theorem SliceOn.of_own {base : Nat} {e : TypeId} {cells : List Value} (h : w.ownsRow base e r.size v xs.length cells) (ha : r.all fr w S cells xs) (hS : ∀ g, v.ownBlock = some g → S g) : SliceOn r fr w S v xs := by
  obtain ⟨hlen, h0 | ⟨g, cap, cur, rfl, hg, hh, hnc, hcm, hsz, htake⟩⟩ := h
  · obtain ⟨rfl, h3⟩ := h0
    have : xs = [] := List.eq_nil_of_length_eq_zero (by omega)
    subst this
    exact SliceOn.none_
  · have hown : w.ownsRow base e r.size (.slice (some ⟨g, 0, none⟩) xs.length cap) xs.length cells := ⟨hlen, .inr ⟨g, cap, cur, rfl, hg, hh, hnc, hcm, hsz, htake⟩⟩
    refine ⟨_, cap, rfl, hnc, hcm, cells, ha, fun _ => ⟨g, 0, rfl, hS g rfl, fun j u hj => ?_⟩⟩
    have := hown.cells (g := g) rfl j u hj
    rw [Nat.zero_add]
    have e : (⟨g, 0, none⟩ : Addr).add j = ⟨g, j, none⟩ := by
      unfold Addr.add
      split
      · subst_vars; rfl
      · simp
    rw [e] at this
    refine ⟨this, fun _ => ?_⟩
    simp [World.frozen?, hh]
theorem SliceIs.of_own {base : Nat} {e : TypeId} {cells : List Value} (h : w.ownsRow base e r.size v xs.length cells) (ha : r.all fr w (rng lo hi) cells xs) (h1 : lo ≤ base) (h2 : w.heap.size ≤ hi) : SliceIs r fr w lo hi v xs :=
  SliceOn.of_own h ha fun g hg => ⟨Nat.le_trans h1 (h.lt g hg).1, Nat.lt_of_lt_of_le (h.lt g hg).2 h2⟩
theorem SliceIs.length_le (h : SliceIs r fr w lo hi v xs) : xs.length ≤ maxLen := by
  obtain ⟨A, c, _, h1, h2, _⟩ := h; omega
end

/-- A number. -/
def Rep.int : Rep Int where
  size := 1
  pos := by omega
  is _ _ _ cs a := cs = [.int .i64 a]
  len h := by rw [h]; rfl
  keep h _ := h
  widen h _ := h
  soft h := h
  one h := by rw [h]; intro u hu; simp at hu; subst hu; rfl
/-- A message. -/
def Rep.msg : Rep (Int × Int) where
  size := 2
  pos := by omega
  is _ _ _ cs a := cs = [.int .i64 a.1, .int .i64 a.2]
  len h := by rw [h]; rfl
  keep h _ := h
  widen h _ := h
  soft h := h
  one h := by rw [h]; intro u hu; simp at hu; rcases hu with rfl | rfl <;> rfl
/-- A list of what can be read. -/
def Rep.slice {α : Type} (r : Rep α) : Rep (List α) where
  size := 1
  pos := by omega
  is fr w S cs a := ∃ v, cs = [v] ∧ SliceOn r fr w S v a
  len h := by obtain ⟨v, rfl, _⟩ := h; rfl
  keep h hk := by obtain ⟨v, rfl, h⟩ := h; exact ⟨v, rfl, h.keep hk⟩
  widen h h1 := by obtain ⟨v, rfl, h⟩ := h; exact ⟨v, rfl, h.widen h1⟩
  soft h := by obtain ⟨v, rfl, h⟩ := h; exact ⟨v, rfl, h.soft⟩
  one h := by
    obtain ⟨v, rfl, A, c, rfl, _⟩ := h
    intro u hu; simp at hu; subst hu; rfl

section
variable {fr : Bool} {w : World} {lo hi k : Nat} {A : Option Addr}
theorem SliceAt.int {xs : List Int} {x : Int} (h : SliceAt Rep.int fr w lo hi A xs) (hx : xs[k]? = some x) :
    ∃ g o, A = some ⟨g, o, none⟩ ∧ lo ≤ g ∧ g < hi ∧ w.cell? ⟨g, o + k, none⟩ = some (.int .i64 x) := by
  obtain ⟨g, o, cs, rfl, h1, h3, h4⟩ := AtOn.at_ h hx
  have h3' : cs = [.int .i64 x] := h3
  subst h3'
  have := (h4 0 _ rfl).1
  exact ⟨g, o, rfl, h1.1, h1.2, by simpa [Rep.int] using this⟩
theorem SliceAt.msg {xs : List (Int × Int)} {x : Int × Int} (h : SliceAt Rep.msg fr w lo hi A xs) (hx : xs[k]? = some x) :
    ∃ g o, A = some ⟨g, o, none⟩ ∧ lo ≤ g ∧ g < hi ∧ w.cell? ⟨g, o + k * 2, none⟩ = some (.int .i64 x.1) ∧ w.cell? ⟨g, o + k * 2 + 1, none⟩ = some (.int .i64 x.2) := by
  obtain ⟨g, o, cs, rfl, h1, h3, h4⟩ := AtOn.at_ h hx
  have h3' : cs = [.int .i64 x.1, .int .i64 x.2] := h3
  subst h3'
  have e0 := (h4 0 _ rfl).1
  have e1 := (h4 1 _ rfl).1
  exact ⟨g, o, rfl, h1.1, h1.2, by simpa [Rep.msg] using e0, by simpa [Rep.msg, Nat.add_assoc] using e1⟩
theorem SliceAt.row {α : Type} {r : Rep α} {xs : List (List α)} {x : List α} (h : SliceAt r.slice fr w lo hi A xs) (hx : xs[k]? = some x) :
    ∃ g o v, A = some ⟨g, o, none⟩ ∧ lo ≤ g ∧ g < hi ∧ w.cell? ⟨g, o + k, none⟩ = some v ∧ SliceIs r fr w lo hi v x := by
  obtain ⟨g, o, cs, rfl, h1, ⟨v, rfl, h3⟩, h4⟩ := AtOn.at_ h hx
  have := (h4 0 _ rfl).1
  exact ⟨g, o, v, rfl, h1.1, h1.2, by simpa [Rep.slice] using this, h3⟩
end
end Go.Proofs.Ytmbilaepeekglaa
