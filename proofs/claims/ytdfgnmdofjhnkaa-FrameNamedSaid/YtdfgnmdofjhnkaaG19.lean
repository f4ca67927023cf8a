/- Lemmas, walks and contracts that the statements of this seat are proved by. -/
import Derived.Test.YtdfgnmdofjhnkaaG15
import Derived.Test.YtdfgnmdofjhnkaaG18
import Derived.Test.YtdfgnmdofjhnkaaG11
import Derived.Test.YtdfgnmdofjhnkaaG12
/- A row of pieces that is written in place, piece by piece. Nothing of the program. -/
namespace Go.Proofs.Ytdfgnmdofjhnkaa
open Go.RowKit

def wsx (w : World) (g o : Nat) (v0 v1 v2 v3 v4 v5 : Value) : World := (((((w.setCell ⟨g, o, none⟩ v0).setCell ⟨g, o + 1, none⟩ v1).setCell ⟨g, o + 2, none⟩ v2).setCell ⟨g, o + 3, none⟩ v3).setCell ⟨g, o + 4, none⟩ v4).setCell ⟨g, o + 5, none⟩ v5
def arr6 (cur : Array Value) (o : Nat) (v0 v1 v2 v3 v4 v5 : Value) : Array Value := (((((cur.setIfInBounds o v0).setIfInBounds (o + 1) v1).setIfInBounds (o + 2) v2).setIfInBounds (o + 3) v3).setIfInBounds (o + 4) v4).setIfInBounds (o + 5) v5
section
variable {w : World} {g o : Nat} {v0 v1 v2 v3 v4 v5 : Value} {cur : Array Value}
theorem arr6_size : (arr6 cur o v0 v1 v2 v3 v4 v5).size = cur.size := by simp [arr6]
theorem arr6_out {k : Nat} (hk : k < o ∨ o + 6 ≤ k) : (arr6 cur o v0 v1 v2 v3 v4 v5)[k]? = cur[k]? := by
  unfold arr6
  rw [Array.getElem?_setIfInBounds_ne (by omega), Array.getElem?_setIfInBounds_ne (by omega), Array.getElem?_setIfInBounds_ne (by omega), Array.getElem?_setIfInBounds_ne (by omega), Array.getElem?_setIfInBounds_ne (by omega), Array.getElem?_setIfInBounds_ne (by omega)]
theorem arr6_in {i : Nat} {u : Value} (hb : o + 6 ≤ cur.size) (hu : [v0, v1, v2, v3, v4, v5][i]? = some u) : (arr6 cur o v0 v1 v2 v3 v4 v5)[o + i]? = some u := by
  have n : ∀ {a : Array Value} {i j : Nat} {x : Value}, i ≠ j → (a.setIfInBounds i x)[j]? = a[j]? := fun h => Array.getElem?_setIfInBounds_ne h
  have y : ∀ {a : Array Value} {i : Nat} {x : Value}, i < a.size → (a.setIfInBounds i x)[i]? = some x := fun h => Array.getElem?_setIfInBounds_self_of_lt h
  unfold arr6
  match i, hu with
  | 0, hu => cases hu; rw [n (by omega), n (by omega), n (by omega), n (by omega), n (by omega)]; exact y (by omega)
  | 1, hu => cases hu; rw [n (by omega), n (by omega), n (by omega), n (by omega)]; exact y (by simp; omega)
  | 2, hu => cases hu; rw [n (by omega), n (by omega), n (by omega)]; exact y (by simp; omega)
  | 3, hu => cases hu; rw [n (by omega), n (by omega)]; exact y (by simp; omega)
  | 4, hu => cases hu; rw [n (by omega)]; exact y (by simp; omega)
  | 5, hu => cases hu; exact y (by simp; omega)
  | i + 6, hu => simp at hu
theorem wsx_at {T : TypeId} (h : w.heap[g]? = some (.cells cur T (0, 0))) : (wsx w g o v0 v1 v2 v3 v4 v5).heap[g]? = some (.cells (arr6 cur o v0 v1 v2 v3 v4 v5) T (0, 0)) :=
  blk_set (blk_set (blk_set (blk_set (blk_set (blk_set h o v0) (o + 1) v1) (o + 2) v2) (o + 3) v3) (o + 4) v4) (o + 5) v5
theorem wsx_far {k : Nat} (hk : k ≠ g) : (wsx w g o v0 v1 v2 v3 v4 v5).heap[k]? = w.heap[k]? := by
  have q : ∀ (w0 : World) (i : Nat) (u : Value), (w0.setCell ⟨g, i, none⟩ u).heap[k]? = w0.heap[k]? := fun w0 i u => heap_setCell_other _ _ _ _ hk
  unfold wsx; rw [q, q, q, q, q, q]
theorem wsx_size : (wsx w g o v0 v1 v2 v3 v4 v5).heap.size = w.heap.size := by simp [wsx, World.setCell]
theorem wsx_below {B : Nat} {w0 : World} (h : Below B w0 w) (hB : B ≤ g) : Below B w0 (wsx w g o v0 v1 v2 v3 v4 v5) := (((((h.setCell hB _).setCell hB _).setCell hB _).setCell hB _).setCell hB _).setCell hB _
end

/-- A row of pieces, written in place: what the first j lead to is new (from B on, and not the row itself); what the others lead to is old. -/
structure InRow (w : World) (g hi B j : Nat) (xs : List Pc.Piece) : Prop where
  row : ∃ cur, w.heap[g]? = some (.cells cur 26 (0, 0)) ∧ xs.length * 6 ≤ cur.size
  new : ∀ m x, m < j → xs[m]? = some x → ∃ cs, Rep.piece.is true w (fun b => B ≤ b ∧ b < w.heap.size ∧ b ≠ g) cs x ∧ ∀ i u, cs[i]? = some u → w.cell? ⟨g, m * 6 + i, none⟩ = some u
  old : ∀ m x, j ≤ m → xs[m]? = some x → ∃ cs, Rep.piece.is false w (fun b => b < hi) cs x ∧ ∀ i u, cs[i]? = some u → w.cell? ⟨g, m * 6 + i, none⟩ = some u
  hig : hi ≤ g
  hBg : B ≤ g
section
variable {w w' : World} {g hi B j : Nat} {xs : List Pc.Piece}
theorem InRow.lt (h : InRow w g hi B j xs) : g < w.heap.size := by
  obtain ⟨cur, h1, _⟩ := h.row
  exact lt_of_block h1
theorem InRow.next (h : InRow w g hi B j xs) (hb : Below w.heap.size w w') : InRow w' g hi B j xs := by
  have hlt := h.lt
  have hbl := hb.block g hlt
  refine ⟨?_, fun m x hm hx => ?_, fun m x hm hx => ?_, h.hig, h.hBg⟩
  · obtain ⟨cur, h1, h2⟩ := h.row
    exact ⟨cur, hbl.trans h1, h2⟩
  · obtain ⟨cs, h1, h2⟩ := h.new m x hm hx
    exact ⟨cs, Rep.piece.widen (Rep.piece.keep h1 fun b hb1 => hb.block b hb1.2.1) fun b hb1 => ⟨hb1.1, Nat.lt_of_lt_of_le hb1.2.1 hb.size, hb1.2.2⟩, fun i u hu => (cell_of_block hbl).trans (h2 i u hu)⟩
  · obtain ⟨cs, h1, h2⟩ := h.old m x hm hx
    exact ⟨cs, Rep.piece.keep h1 fun b hb1 => hb.block b (by have := h.hig; omega), fun i u hu => (cell_of_block hbl).trans (h2 i u hu)⟩
theorem InRow.keep (h : InRow w g hi B j xs) (hk : ∀ b, b < hi ∨ B ≤ b → w'.heap[b]? = w.heap[b]?) (hs : w.heap.size ≤ w'.heap.size) : InRow w' g hi B j xs := by
  have hbl := hk g (.inr h.hBg)
  refine ⟨?_, fun m x hm hx => ?_, fun m x hm hx => ?_, h.hig, h.hBg⟩
  · obtain ⟨cur, h1, h2⟩ := h.row
    exact ⟨cur, hbl.trans h1, h2⟩
  · obtain ⟨cs, h1, h2⟩ := h.new m x hm hx
    exact ⟨cs, Rep.piece.widen (Rep.piece.keep h1 fun b hb1 => hk b (.inr hb1.1)) fun b hb1 => ⟨hb1.1, Nat.lt_of_lt_of_le hb1.2.1 hs, hb1.2.2⟩, fun i u hu => (cell_of_block hbl).trans (h2 i u hu)⟩
  · obtain ⟨cs, h1, h2⟩ := h.old m x hm hx
    exact ⟨cs, Rep.piece.keep h1 fun b hb1 => hk b (.inl hb1), fun i u hu => (cell_of_block hbl).trans (h2 i u hu)⟩
theorem InRow.base {B' : Nat} (h : InRow w g hi B j xs) (hB : B' ≤ B) : InRow w g hi B' j xs :=
  ⟨h.row, fun m x hm hx => by obtain ⟨cs, h1, h2⟩ := h.new m x hm hx; exact ⟨cs, Rep.piece.widen h1 fun b hb => ⟨Nat.le_trans hB hb.1, hb.2⟩, h2⟩, h.old, h.hig, Nat.le_trans hB h.hBg⟩
theorem InRow.free (h : InRow w g hi B j xs) (i : Nat) : w.frozen? ⟨g, i, none⟩ = false := by
  obtain ⟨cur, h1, _⟩ := h.row
  simp [World.frozen?, h1]
theorem InRow.step {x : Pc.Piece} {v0 v1 v2 v3 v4 v5 : Value} (h : InRow w g hi B j xs) (hx : xs[j]? = some x) (hn : Rep.piece.is true w (fun b => B ≤ b ∧ b < w.heap.size ∧ b ≠ g) [v0, v1, v2, v3, v4, v5] x) :
    InRow (wsx w g (j * 6) v0 v1 v2 v3 v4 v5) g hi B (j + 1) xs := by
  obtain ⟨cur, hc, hs⟩ := h.row
  have hat := wsx_at (o := j * 6) (v0 := v0) (v1 := v1) (v2 := v2) (v3 := v3) (v4 := v4) (v5 := v5) hc
  have hjl : j < xs.length := (List.getElem?_eq_some_iff.1 hx).1
  have hother : ∀ m i u, m ≠ j → i < 6 → w.cell? ⟨g, m * 6 + i, none⟩ = some u → (wsx w g (j * 6) v0 v1 v2 v3 v4 v5).cell? ⟨g, m * 6 + i, none⟩ = some u := by
    intro m i u hm hi6 hu
    rw [blk_cell hc] at hu
    rw [blk_cell hat, arr6_out (by omega)]
    exact hu
  refine ⟨⟨_, hat, by rw [arr6_size]; exact hs⟩, fun m y hm hy => ?_, fun m y hm hy => ?_, h.hig, h.hBg⟩
  · rcases Nat.lt_or_ge m j with hmj | hmj
    · obtain ⟨cs, h1, h2⟩ := h.new m y hmj hy
      have hl : cs.length = 6 := Rep.piece.len h1
      refine ⟨cs, Rep.piece.widen (Rep.piece.keep h1 fun b hb => wsx_far hb.2.2) fun b hb => by rw [wsx_size]; exact hb, fun i u hu => hother m i u (by omega) ?_ (h2 i u hu)⟩
      have := (List.getElem?_eq_some_iff.1 hu).1
      omega
    · obtain rfl : m = j := by omega
      rw [hx] at hy
      cases hy
      refine ⟨_, Rep.piece.widen (Rep.piece.keep hn fun b hb => wsx_far hb.2.2) fun b hb => by rw [wsx_size]; exact hb, fun i u hu => ?_⟩
      rw [blk_cell hat]
      exact arr6_in (by omega) hu
  · obtain ⟨cs, h1, h2⟩ := h.old m y (by omega) hy
    have hl : cs.length = 6 := Rep.piece.len h1
    refine ⟨cs, Rep.piece.keep h1 fun b hb => wsx_far (by have := h.hig; omega), fun i u hu => hother m i u (by omega) ?_ (h2 i u hu)⟩
    have := (List.getElem?_eq_some_iff.1 hu).1
    omega
/-- A row that a slice of the call's own lies in. -/
theorem InRow.of_top {v : Value} (h : Top Rep.piece 26 hi B w v xs) (hh : hi ≤ B) (hn : 0 < xs.length) : ∃ g c, v = .slice (some ⟨g, 0, none⟩) xs.length c ∧ xs.length ≤ c ∧ c ≤ maxLen ∧ InRow w g hi B 0 xs := by
  obtain ⟨cells, hown, hall⟩ := h
  rcases id hown.2 with ⟨_, h0⟩ | ⟨g, cap, cur, rfl, hg, hc, hnc, hcm, hsz, ht⟩
  · omega
  · refine ⟨g, cap, rfl, hnc, hcm, ⟨cur, hc, by rw [hsz]; exact Nat.mul_le_mul_right _ hnc⟩, fun m x hm => absurd hm (Nat.not_lt_zero _), fun m x _ hx => ?_, by omega, hg⟩
    obtain ⟨cs, h1, h2⟩ := Rep.all_at hall hx
    refine ⟨cs, Rep.piece.widen h1 fun b hb => hb.2, fun i u hu => ?_⟩
    have h3 := hown.cells (g := g) rfl (m * 6 + i) u (h2 i u hu)
    rw [add_at, Nat.zero_add] at h3
    exact h3
theorem Rep.all_slots {α : Type} {r : Rep α} {fr : Bool} {w : World} {S : Nat → Prop} : ∀ {xs : List α} {cells : List Value}, cells.length = xs.length * r.size → (∀ (m : Nat) (x : α), xs[m]? = some x → ∃ cs, r.is fr w S cs x ∧ ∀ i u, cs[i]? = some u → cells[m * r.size + i]? = some u) → r.all fr w S cells xs := by
  intro xs
  induction xs with
  | nil => intro cells hl _; exact List.eq_nil_of_length_eq_zero (by simpa using hl)
  | cons x xs ih =>
    intro cells hl h
    obtain ⟨cs, h1, h2⟩ := h 0 x rfl
    have hcl := r.len h1
    rw [List.length_cons, Nat.succ_mul] at hl
    have hpre : cells.take r.size = cs := by
      apply List.ext_getElem?
      intro i
      rcases Nat.lt_or_ge i r.size with hi | hi
      · rw [List.getElem?_take, if_pos hi]
        have hu : cs[i]? = some (cs[i]'(by omega)) := List.getElem?_eq_getElem (by omega)
        rw [hu]
        have := h2 i _ hu
        rwa [Nat.zero_mul, Nat.zero_add] at this
      · rw [List.getElem?_eq_none (by rw [List.length_take]; omega), List.getElem?_eq_none (by omega)]
    refine ⟨cs, cells.drop r.size, by rw [← hpre, List.take_append_drop], h1, ih (by rw [List.length_drop]; omega) fun m y hy => ?_⟩
    obtain ⟨c2, h3, h4⟩ := h (m + 1) y (by simpa using hy)
    refine ⟨c2, h3, fun i u hu => ?_⟩
    rw [List.getElem?_drop]
    have := h4 i u hu
    rw [Nat.succ_mul] at this
    rw [← this]
    congr 1
    omega
theorem InRow.slice {c : Nat} (h : InRow w g hi B xs.length xs) (hc : xs.length ≤ c) (hm : c ≤ maxLen) : SliceIs Rep.piece true w B w.heap.size (.slice (some ⟨g, 0, none⟩) xs.length c) xs := by
  obtain ⟨cur, hr, hs⟩ := h.row
  have hlt := h.lt
  refine ⟨_, _, rfl, hc, hm, cur.toList.take (xs.length * 6), ?_, fun hn => ⟨g, 0, rfl, ⟨h.hBg, hlt⟩, fun j u hj => ⟨?_, fun _ => h.free _⟩⟩⟩
  · apply Rep.all_slots
    · show (cur.toList.take (xs.length * 6)).length = xs.length * 6
      have : cur.toList.length = cur.size := Array.length_toList
      rw [List.length_take]; omega
    · intro m x hx
      have hml : m < xs.length := (List.getElem?_eq_some_iff.1 hx).1
      obtain ⟨cs, h1, h2⟩ := h.new m x hml hx
      refine ⟨cs, Rep.piece.widen h1 fun b hb => ⟨hb.1, hb.2.1⟩, fun i u hu => ?_⟩
      have hl : cs.length = 6 := Rep.piece.len h1
      have hi6 := (List.getElem?_eq_some_iff.1 hu).1
      have := h2 i u hu
      rw [blk_cell hr] at this
      show (cur.toList.take (xs.length * 6))[m * 6 + i]? = some u
      rw [List.getElem?_take, if_pos (by omega)]
      simpa using this
  · rw [List.getElem?_take] at hj
    split at hj
    · rw [blk_cell hr, Nat.zero_add]; simpa using hj
    · cases hj
end
/-- A list of numbers that lies in the blocks lo .. hi. -/
def Kept (w : World) (lo hi : Nat) (v : Value) (xs : List Int) : Prop := hi ≤ w.heap.size ∧ SliceIs Rep.int true w lo hi v xs
theorem Kept.keep {w w' : World} {lo hi : Nat} {v : Value} {xs : List Int} (h : Kept w lo hi v xs) (hs : hi ≤ w'.heap.size) (hk : ∀ b, lo ≤ b → b < hi → w'.heap[b]? = w.heap[b]?) : Kept w' lo hi v xs := ⟨hs, h.2.keep hk⟩
theorem Kept.next {w w' : World} {lo hi : Nat} {v : Value} {xs : List Int} (h : Kept w lo hi v xs) (hb : Below w.heap.size w w') : Kept w' lo hi v xs := ⟨Nat.le_trans h.1 hb.size, h.2.below hb h.1⟩
/-- What frame.Own answers: a frame whose lists lie in blocks of its own, the pieces' row apart from what they lead to. -/
def OwnIs (w : World) (B : Nat) (v : Value) (f : Fr) : Prop :=
  ∃ A' B' k l, v = .agg #[.int .i64 f.kind, .int .i64 f.epoch, .int .i64 f.seq, .int .i64 f.letter, .slice A' f.pieces.length k, .int .i64 f.init, .int .i64 f.num, .int .i64 f.count, .slice B' f.path.length l] ∧
    f.pieces.length ≤ k ∧ k ≤ maxLen ∧ (0 < f.pieces.length → ∃ g hi, A' = some ⟨g, 0, none⟩ ∧ InRow w g hi B f.pieces.length f.pieces) ∧ SliceIs Rep.int true w B w.heap.size (.slice B' f.path.length l) f.path
theorem OwnIs.fr {w : World} {B : Nat} {v : Value} {f : Fr} (h : OwnIs w B v f) : FrIs true w B w.heap.size v f := by
  obtain ⟨A', B', k, l, rfl, h1, h2, h3, h4⟩ := h
  refine ⟨A', B', k, l, rfl, ?_, h4⟩
  rcases Nat.eq_zero_or_pos f.pieces.length with h0 | h0
  · have hn : f.pieces = [] := List.eq_nil_of_length_eq_zero h0
    rw [hn]
    exact SliceIs.nil_any _ _ h2
  · obtain ⟨g, hi, rfl, h5⟩ := h3 h0
    exact h5.slice h1 h2
end Go.Proofs.Ytdfgnmdofjhnkaa

/- frame.Own. -/
namespace Go.Proofs.Ytdfgnmdofjhnkaa
open Go.RowKit

set_option maxRecDepth 100000 in
set_option maxHeartbeats 8000000 in
theorem frown_any (v : Value) (f : Fr) (w : World) (h : FrIs false w 0 w.heap.size v f) (hn : f.pieces.length ≤ 1000000) (hl : f.path.length ≤ 1000000) (hsz : ∀ p ∈ f.pieces, Pc.sized p) : Calls Try.prog 40 #[v] w
    fun y w' => (∃ u, y = .returned u ∧ OwnIs w' w.heap.size u f) ∧ Below w.heap.size w w' := by
  obtain ⟨k, e, s, t, ps, i, n, c, p⟩ := f
  obtain ⟨A, B, x, y, rfl, h1, h2⟩ := h
  dsimp only at h1 h2 hn hl hsz ⊢
  have HSZ := Lib.hid hsz; clear hsz
  go_enter Try.func40, Try.ntmps40
  go_upto_region 1 with fail
  refine name_wp fun W0 hW0 => ?_
  have bx : Box W0 w.heap.size #[.int .i64 k, .int .i64 e, .int .i64 s, .int .i64 t, .slice A ps.length x, .int .i64 i, .int .i64 n, .int .i64 c, .slice B p.length y] 58 := hW0 ▸ (Box.at' _ _ rfl).alloc _
  have b2 : Box W0 (w.heap.size + 1) #[.int .i64 0, .int .i64 0, .int .i64 0, .int .i64 0, .slice none 0 0, .int .i64 0, .int .i64 0, .int .i64 0, .slice none 0 0] 58 := hW0 ▸ Box.at' _ _ (by simp)
  have hB : Below w.heap.size w W0 := hW0 ▸ ((Below.refl _ _).alloc (Nat.le_refl _) _).alloc (by simp) _
  clear hW0
  have h1b := h1.below hB (Nat.le_refl _)
  have hW0l : w.heap.size + 1 < W0.heap.size := b2.lt
  have h2b := (h2.below hB (Nat.le_refl _)).widen (Nat.le_refl _) hB.size
  clear h1 h2
  obtain ⟨d0, d1, d2, d3, d4, d5, d6, d7, d8⟩ := nine_cells bx
  obtain ⟨f0, f1, f2, f3, f4, f5, f6, f7, f8⟩ := nine_free bx
  go_wp2_with fail
  clear d0 d1 d2 d3 d4 d5 d6 d7 d8
  clear f0 f1 f2 f3 f4 f5 f6 f7 f8
  refine (clone_ints _ p _ h2b hl).mono ?_
  rintro z w1 ⟨⟨v1, rfl, hp1⟩, hb⟩
  obtain ⟨A8, c8, rfl, _, _, _⟩ := id hp1
  replace bx := bx.next hb; replace b2 := b2.next hb; replace hB := hB.trans (hb.mono hB.size)
  have h1c := h1b.below hb (by omega)
  have hw1 : W0.heap.size ≤ w1.heap.size := hb.size
  clear hb h1b h2b
  obtain ⟨d0, d1, d2, d3, d4, d5, d6, d7, d8⟩ := nine_cells bx
  obtain ⟨f0, f1, f2, f3, f4, f5, f6, f7, f8⟩ := nine_free bx
  go_upto_region 2 with fail
  clear d0 d1 d2 d3 d4 d5 d6 d7 d8
  clear f0 f1 f2 f3 f4 f5 f6 f7 f8
  refine name_wp fun W1 hW1 => ?_
  have bx1 : Box W1 w.heap.size #[.int .i64 k, .int .i64 e, .int .i64 s, .int .i64 t, .slice A ps.length x, .int .i64 i, .int .i64 n, .int .i64 c, .slice A8 p.length c8] 58 := by rw [← hW1]; exact blk_set bx 8 _
  have hbl1 := bx.lt
  have b21 : Box W1 (w.heap.size + 1) #[.int .i64 0, .int .i64 0, .int .i64 0, .int .i64 0, .slice none 0 0, .int .i64 0, .int .i64 0, .int .i64 0, .slice none 0 0] 58 := by rw [← hW1]; exact (heap_setCell_other _ _ _ _ (Nat.succ_ne_self _)).trans b2
  have hkp : ∀ b, b ≠ w.heap.size → W1.heap[b]? = w1.heap[b]? := fun b hb => by rw [← hW1]; exact heap_setCell_other _ _ _ _ hb
  have hz1 : W1.heap.size = w1.heap.size := by rw [← hW1]; simp [World.setCell]
  have hB1 : Below w.heap.size w W1 := by rw [← hW1]; exact hB.setCell (Nat.le_refl _) _
  clear hW1
  have hpk : Kept W1 W0.heap.size w1.heap.size (.slice A8 p.length c8) p := ⟨Nat.le_of_eq hz1.symm, hp1.keep fun b q1 _ => hkp b (by omega)⟩
  have h1d : SliceIs Rep.piece false W1 0 w.heap.size (.slice A ps.length x) ps := h1c.keep fun b _ q => hkp b (by omega)
  clear h1c hp1 hkp bx b2 hB hbl1
  obtain ⟨d0, d1, d2, d3, d4, d5, d6, d7, d8⟩ := nine_cells bx1
  obtain ⟨f0, f1, f2, f3, f4, f5, f6, f7, f8⟩ := nine_free bx1
  go_wp2_with fail
  clear d0 d1 d2 d3 d4 d5 d6 d7 d8
  clear f0 f1 f2 f3 f4 f5 f6 f7 f8
  refine (clone_pieces w.heap.size _ ps _ (by omega) h1d hn).mono ?_
  rintro z w2 ⟨⟨v2, rfl, htop⟩, hb⟩
  obtain ⟨A7, c7, rfl, hc7, hm7, _⟩ := id htop.slice
  replace bx1 := bx1.next hb; replace b21 := b21.next hb; replace hB1 := hB1.trans (hb.mono hB1.size); replace hpk := hpk.next hb
  have hw2 : W1.heap.size ≤ w2.heap.size := hb.size
  clear hb h1d
  have hrow : 0 < ps.length → ∃ g, A7 = some ⟨g, 0, none⟩ ∧ W1.heap.size ≤ g ∧ InRow w2 g w.heap.size W1.heap.size 0 ps := by
    intro h0
    obtain ⟨g, c, he, _, _, hr⟩ := InRow.of_top htop (by omega) h0
    cases he
    exact ⟨g, rfl, hr.hBg, hr⟩
  clear htop
  obtain ⟨d0, d1, d2, d3, d4, d5, d6, d7, d8⟩ := nine_cells bx1
  obtain ⟨f0, f1, f2, f3, f4, f5, f6, f7, f8⟩ := nine_free bx1
  go_upto_region 3 with fail
  clear d0 d1 d2 d3 d4 d5 d6 d7 d8
  clear f0 f1 f2 f3 f4 f5 f6 f7 f8
  refine name_wp fun W2 hW2 => ?_
  have bx2 : Box W2 w.heap.size #[.int .i64 k, .int .i64 e, .int .i64 s, .int .i64 t, .slice A7 ps.length c7, .int .i64 i, .int .i64 n, .int .i64 c, .slice A8 p.length c8] 58 := by rw [← hW2]; exact blk_set bx1 4 _
  have b22 : Box W2 (w.heap.size + 1) #[.int .i64 0, .int .i64 0, .int .i64 0, .int .i64 0, .slice none 0 0, .int .i64 0, .int .i64 0, .int .i64 0, .slice none 0 0] 58 := by rw [← hW2]; exact (heap_setCell_other _ _ _ _ (Nat.succ_ne_self _)).trans b21
  have hkp : ∀ b, b ≠ w.heap.size → W2.heap[b]? = w2.heap[b]? := fun b hb => by rw [← hW2]; exact heap_setCell_other _ _ _ _ hb
  have hz2 : W2.heap.size = w2.heap.size := by rw [← hW2]; simp [World.setCell]
  have hB2 : Below w.heap.size w W2 := by rw [← hW2]; exact hB1.setCell (Nat.le_refl _) _
  clear hW2
  have hws2 : W1.heap.size ≤ W2.heap.size := by omega
  have hpk2 : Kept W2 W0.heap.size w1.heap.size (.slice A8 p.length c8) p := hpk.keep (by omega) fun b q1 _ => hkp b (by omega)
  have hrow2 : 0 < ps.length → ∃ g, A7 = some ⟨g, 0, none⟩ ∧ W1.heap.size ≤ g ∧ InRow W2 g w.heap.size W1.heap.size 0 ps := by
    intro h0
    obtain ⟨g, he, hg, hr⟩ := hrow h0
    exact ⟨g, he, hg, hr.keep (fun b hb => hkp b (by omega)) (by omega)⟩
  clear hrow hkp bx1 b21 hB1 hpk
  obtain ⟨d0, d1, d2, d3, d4, d5, d6, d7, d8⟩ := nine_cells bx2
  go_wp2_with fail
  clear d0 d1 d2 d3 d4 d5 d6 d7 d8
  have HW2 := Lib.hid hws2; clear hws2
  have hs0 : w.heap.size + 1 < W0.heap.size := hW0l
  have hsz1 : w1.heap.size ≤ W1.heap.size := by omega
  have HS0 := Lib.hid hs0; have HS1 := Lib.hid hsz1; have HW1 := Lib.hid hw1; clear hs0 hsz1 hW0l hz1 hz2 hw1 hw2
  go_loopg [16] ps.length (fun kk iv wr => ∃ j : Nat, iv = .int .i64 (j : Int) ∧ j ≤ ps.length ∧ kk = ps.length - j ∧ Box wr w.heap.size #[.int .i64 k, .int .i64 e, .int .i64 s, .int .i64 t, .slice A7 ps.length c7, .int .i64 i, .int .i64 n, .int .i64 c, .slice A8 p.length c8] 58 ∧ Box wr (w.heap.size + 1) #[.int .i64 0, .int .i64 0, .int .i64 0, .int .i64 0, .slice none 0 0, .int .i64 0, .int .i64 0, .int .i64 0, .slice none 0 0] 58 ∧ Below w.heap.size w wr ∧ Kept wr W0.heap.size w1.heap.size (.slice A8 p.length c8) p ∧ W1.heap.size ≤ wr.heap.size ∧
      (0 < ps.length → ∃ g, A7 = some ⟨g, 0, none⟩ ∧ W1.heap.size ≤ g ∧ InRow wr g w.heap.size W1.heap.size j ps))
  case atStart => exact ⟨0, rfl, by omega, by omega, bx2, b22, hB2, hpk2, HW2.out, hrow2⟩
  case round =>
    clear bx2 b22 hB2 hpk2 hrow2
    obtain ⟨j, rfl, hj, hk, bx, b2, hB, hpk, hws, hrow⟩ := hrel
    have HK := Lib.hid hk; clear hk
    by_cases hlt : j < ps.length
    ·
      obtain ⟨g, rfl, hg, hr⟩ := hrow (by omega)
      have HG := Lib.hid hg; have HWS := Lib.hid hws; clear hrow hg hws
      obtain ⟨q, hq⟩ := Pc.get_at hlt
      obtain ⟨cs, hcs, hcc⟩ := hr.old j q (Nat.le_refl _) hq
      obtain ⟨r3, r4, r5, rfl, z3, z4, z5⟩ := hcs
      obtain ⟨R3, t3, rfl, _⟩ := id z3; obtain ⟨R4, t4, rfl, _⟩ := id z4; obtain ⟨R5, t5, rfl, _⟩ := id z5
      have c0 := hcc 0 _ rfl
      have c1 := hcc 1 _ rfl
      have c2 := hcc 2 _ rfl
      have c3 := hcc 3 _ rfl
      have c4 := hcc 4 _ rfl
      have c5 := hcc 5 _ rfl
      simp only [Nat.add_zero] at c0
      clear hcc
      have HQ := Lib.hid hq; clear hq
      have hgl := hr.lt
      have hgl0 := hgl
      go_upto_region 6 with fail
      clear c0 c1 c2 c3 c4 c5
      refine name_wp fun w5 hw5 => ?_
      have bp : Box w5 wr.heap.size #[.int .i64 q.node, .int .i64 q.state, .int .i64 q.steps, .slice R3 q.sent.length t3, .slice R4 q.inn.length t4, .slice R5 q.out.length t5] 26 := hw5 ▸ Box.new _ _ _
      have hb5 : Below wr.heap.size wr w5 := hw5 ▸ (Below.refl _ _).alloc (Nat.le_refl _) _
      clear hw5
      replace bx := bx.next hb5; replace b2 := b2.next hb5; replace hB := hB.trans (hb5.mono hB.size); replace hpk := hpk.next hb5; replace hr := hr.next hb5
      have hgl5 : g < w5.heap.size := hr.lt
      have hws5 : W1.heap.size ≤ w5.heap.size := Nat.le_trans HWS.out hb5.size
      have hw5l := hB.size
      have hpq : PieceIs false w5 0 w5.heap.size (.agg #[.int .i64 q.node, .int .i64 q.state, .int .i64 q.steps, .slice R3 q.sent.length t3, .slice R4 q.inn.length t4, .slice R5 q.out.length t5]) q := ⟨_, _, _, rfl, (z3.keep fun b hb => hb5.block b (by have := bx.lt; have h := HG.out; have h2 := HS0.out; have h3 := HS1.out; have h4 := HW1.out; omega)).widen fun b hb => ⟨Nat.zero_le _, by omega⟩, (z4.keep fun b hb => hb5.block b (by have h := HG.out; have h2 := HS0.out; have h3 := HS1.out; have h4 := HW1.out; omega)).widen fun b hb => ⟨Nat.zero_le _, by omega⟩, (z5.keep fun b hb => hb5.block b (by have h := HG.out; have h2 := HS0.out; have h3 := HS1.out; have h4 := HW1.out; omega)).widen fun b hb => ⟨Nat.zero_le _, by omega⟩⟩
      clear z3 z4 z5 hb5 hgl hgl0
      have HG5 := Lib.hid hgl5; have HW5 := Lib.hid hws5; clear hgl5 hws5 hw5l
      replace bx := bx.next ((Below.refl _ _).drew)
      replace b2 := b2.next ((Below.refl _ _).drew)
      replace hr := hr.next ((Below.refl _ _).drew)
      replace hpk := hpk.next ((Below.refl _ _).drew)
      replace hpq := hpq.next ((Below.refl _ _).drew)
      replace bp := bp.next ((Below.refl _ _).drew)
      replace hB := hB.drew
      have hE := Ext.refl (w5.drew)
      refine region_go 16 (by kernel_rfl) ?_
      obtain ⟨y0, y1, y2, y3, y4, y5⟩ := bp.six
      refine wpAny_go 16 0 [3] 8 6 (by kernel_rfl) (by kernel_rfl) (fun _ _ _ _ _ h => h) (by kernel_rfl) (by rfl) (by rfl) (by kernel_rfl) ?_
      simp only [List.map_cons, List.map_nil, List.getD_cons_succ, List.getD_cons_zero]
      go_wp2_with fail
      change wpAnyM _ _ _ _ _ _ _ _ _ _
      clear y0 y1 y2 y3 y4 y5
      obtain ⟨d0, d1, d2, d3, d4, d5, d6, d7, d8⟩ := nine_cells bx
      refine wpAny_reads 16 8 [0, 1, 2] 15 3 (by kernel_rfl) (by kernel_rfl) (fun _ _ _ _ _ h => h) (by kernel_rfl) (by rfl) (by rfl) (by kernel_rfl) ?_
      simp only [List.map_cons, List.map_nil, List.getD_cons_succ, List.getD_cons_zero]
      go_wp2_with fail
      change _ → wpAnyM _ _ _ _ _ _ _ _ _ _; intro _
      clear d0 d1 d2 d3 d4 d5 d6 d7 d8
      refine wpAny_oneM 4 31 (by kernel_rfl) (by kernel_rfl) (of_decide_eq_true (by kernel_rfl)) (by rfl) ?_
      simp only [List.getD_cons_succ, List.getD_cons_zero]
      go_wp2_with fail
      refine (Own_any _ q _ hpq (HSZ.out q (List.mem_of_getElem? HQ.out))).mono ?_
      rintro e w6 ⟨⟨v5, rfl, hnew⟩, hb⟩
      replace bx := bx.next hb
      replace b2 := b2.next hb
      replace hr := hr.next hb
      replace hpk := hpk.next hb
      replace hpq := hpq.next hb
      replace bp := bp.next hb
      replace hE := hE.trans (Ext.below hb (Nat.le_refl _))
      replace hB := hB.trans (hb.mono hB.size)
      clear hb
      obtain ⟨cs6, rfl, hcs6⟩ := hnew.cells
      have hcs60 := hcs6
      obtain ⟨s3, s4, s5, rfl, ⟨S3, k3, rfl, _⟩, ⟨S4, k4, rfl, _⟩, ⟨S5, k5, rfl, _⟩⟩ := hcs60
      clear hnew
      go_wp2_with fail
      refine ⟨fun _ => hE, ?_⟩
      obtain ⟨_, ⟨r3, r4, r5, rfl, _⟩, hcc⟩ := hr.old j q (Nat.le_refl _) HQ.out
      have c0 := hcc 0 _ rfl
      have c1 := hcc 1 _ rfl
      have c2 := hcc 2 _ rfl
      have c3 := hcc 3 _ rfl
      have c4 := hcc 4 _ rfl
      have c5 := hcc 5 _ rfl
      have f0 := hr.free (j * 6 + 0)
      have f1 := hr.free (j * 6 + 1)
      have f2 := hr.free (j * 6 + 2)
      have f3 := hr.free (j * 6 + 3)
      have f4 := hr.free (j * 6 + 4)
      have f5 := hr.free (j * 6 + 5)
      simp only [Nat.add_zero] at c0 f0
      clear hcc
      have hgl6 := hr.lt
      refine wpAny_go 16 31 [5, 6] 127 0 (by kernel_rfl) (by kernel_rfl) (fun _ _ _ _ _ h => h) (by kernel_rfl) (by rfl) (by rfl) (by kernel_rfl) ?_
      simp only [List.map_cons, List.map_nil, List.getD_cons_succ, List.getD_cons_zero]
      go_wp2_with fail
      change wpAnyM _ _ _ _ _ _ _ _ _ _
      clear c0 f0 c1 f1 c2 f2 c3 f3 c4 f4 c5 f5 hgl6
      refine nameAny fun V hV => ?_
      have hrV : InRow V g w.heap.size W1.heap.size (j + 1) ps := by rw [← hV]; exact hr.step HQ.out (Rep.piece.widen hcs6 fun b hb => ⟨Nat.le_trans HW5.out hb.1, hb.2, Nat.ne_of_gt (Nat.lt_of_lt_of_le HG5.out hb.1)⟩)
      have hfV : ∀ b, b ≠ g → V.heap[b]? = w6.heap[b]? := fun b hb => by rw [← hV]; exact wsx_far hb
      have hzV : V.heap.size = w6.heap.size := by rw [← hV]; exact wsx_size
      have hBV : Below w.heap.size w V := by rw [← hV]; exact wsx_below hB (by have := hr.hig; omega)
      clear hV
      have hne : w.heap.size ≠ g ∧ w.heap.size + 1 ≠ g := by have h := HG.out; have h2 := HS0.out; have h3 := HS1.out; have h4 := HW1.out; omega
      have bxV : Box V w.heap.size #[.int .i64 k, .int .i64 e, .int .i64 s, .int .i64 t, .slice (some ⟨g, 0, none⟩) ps.length c7, .int .i64 i, .int .i64 n, .int .i64 c, .slice A8 p.length c8] 58 := (hfV _ hne.1).trans bx
      have b2V : Box V (w.heap.size + 1) #[.int .i64 0, .int .i64 0, .int .i64 0, .int .i64 0, .slice none 0 0, .int .i64 0, .int .i64 0, .int .i64 0, .slice none 0 0] 58 := (hfV _ hne.2).trans b2
      have hpkV : Kept V W0.heap.size w1.heap.size (.slice A8 p.length c8) p := hpk.keep (by rw [hzV]; exact hpk.1) fun b q1 q2 => hfV b (by have h := HG.out; have h3 := HS1.out; omega)
      have hwsV : W1.heap.size ≤ V.heap.size := by have h := hrV.lt; have h2 := HG.out; omega
      clear hfV hzV hne bx b2 hpk hr hcs6 hpq bp
      refine wpAny_endM (by kernel_rfl) (by kernel_rfl) ?_
      go_wp2_with fail
      go_roundg (ps.length - (j + 1))
      case rel => exact ⟨j + 1, by simp, by omega, rfl, bxV, b2V, hBV, hpkV, hwsV, fun _ => ⟨g, rfl, HG.out, hrV⟩⟩
      case measure => have := HK.out; omega
    ·
      have hjl : j = ps.length := by omega
      rw [hjl] at hrow
      clear hjl
      have B2 := Lib.hid b2; have BB := Lib.hid hB; have HPK := Lib.hid hpk; have HR := Lib.hid hrow; have HWS := Lib.hid hws; clear hB hpk hrow hws
      obtain ⟨d0, d1, d2, d3, d4, d5, d6, d7, d8⟩ := nine_cells bx
      obtain ⟨g0, g1, g2, g3, g4, g5, g6, g7, g8⟩ := nine_cells b2
      obtain ⟨f0, f1, f2, f3, f4, f5, f6, f7, f8⟩ := nine_free b2
      clear b2 bx
      go_wp2_with fail
      clear d0 f0 g0 d1 f1 g1 d2 f2 g2 d3 f3 g3 d4 f4 g4 d5 f5 g5 d6 f6 g6 d7 f7 g7 d8 f8 g8
      have r := nine_box (a0 := .int .i64 k) (a1 := .int .i64 e) (a2 := .int .i64 s) (a3 := .int .i64 t) (a4 := .slice A7 ps.length c7) (a5 := .int .i64 i) (a6 := .int .i64 n) (a7 := .int .i64 c) (a8 := .slice A8 p.length c8) B2.out
      have hfar := fun (q : Nat) (hq : q ≠ w.heap.size + 1) => nine_far (w := wr) (b := w.heap.size + 1) (a0 := .int .i64 k) (a1 := .int .i64 e) (a2 := .int .i64 s) (a3 := .int .i64 t) (a4 := .slice A7 ps.length c7) (a5 := .int .i64 i) (a6 := .int .i64 n) (a7 := .int .i64 c) (a8 := .slice A8 p.length c8) hq
      have hz9 := nine_size (w := wr) (b := w.heap.size + 1) (a0 := .int .i64 k) (a1 := .int .i64 e) (a2 := .int .i64 s) (a3 := .int .i64 t) (a4 := .slice A7 ps.length c7) (a5 := .int .i64 i) (a6 := .int .i64 n) (a7 := .int .i64 c) (a8 := .slice A8 p.length c8)
      have hbl := nine_below (b := w.heap.size + 1) (a0 := .int .i64 k) (a1 := .int .i64 e) (a2 := .int .i64 s) (a3 := .int .i64 t) (a4 := .slice A7 ps.length c7) (a5 := .int .i64 i) (a6 := .int .i64 n) (a7 := .int .i64 c) (a8 := .slice A8 p.length c8) BB.out (Nat.le_succ _)
      unfold wnine at r
      obtain ⟨g0, g1, g2, g3, g4, g5, g6, g7, g8⟩ := nine_cells r
      refine bodyPost_ret (v := .agg #[.int .i64 k, .int .i64 e, .int .i64 s, .int .i64 t, .slice A7 ps.length c7, .int .i64 i, .int .i64 n, .int .i64 c, .slice A8 p.length c8]) (by simp [results, Try.results40, go_sem, g0, g1, g2, g3, g4, g5, g6, g7, g8]) rfl ⟨⟨_, rfl, _, _, _, _, rfl, hc7, hm7, fun h0 => ?_, ?_⟩, hbl⟩
      · obtain ⟨g, he, hg, hr⟩ := HR.out h0
        have h2 := HS0.out; have h3 := HS1.out; have h4 := HW1.out; have h5 := HWS.out
        exact ⟨g, _, he, (hr.keep (fun b hb => hfar b (by omega)) (Nat.le_of_eq hz9.symm)).base (by omega)⟩
      · have h2 := HS0.out; have h3 := HS1.out; have h4 := HW1.out; have h5 := HPK.out.1
        exact (HPK.out.2.keep fun b q1 q2 => hfar b (by omega)).widen (by omega) (Nat.le_trans h5 (Nat.le_of_eq hz9.symm))
end Go.Proofs.Ytdfgnmdofjhnkaa

/- cameolaw06.fixed: calls whose answers the document fixes. -/
namespace Go.Proofs.Ytdfgnmdofjhnkaa
open Go.RowKit

theorem Box.new' {w : World} {n : Nat} (cs : Array Value) (T : TypeId) (h : w.heap.size = n) : Box (w.alloc (.cells cs T)) n cs T := by subst h; exact Box.new _ _ _
theorem encodec {v : Value} {p : Pc.Piece} {w : World} {l : List UInt8} {n : Int} (h : PieceIs false w 0 w.heap.size v p) (he : Pc.enc p = l) (hr : Pc.err p = n) : Calls Try.prog 16 #[v] w
    fun x w' => x = .returned (.tuple #[.string ⟨l.toArray⟩, .int .i64 n]) ∧ Below w.heap.size w w' := by
  subst he hr; exact encode_any v p w h
theorem decodec {s : ByteArray} {l : List UInt8} {p : Pc.Piece} {n : Int} (w : World) (hl : s.data.toList = l) (hs : l.length ≤ 1000) (hp : Pc.dec l = p) (hn : Pc.decE l = n) : Calls Try.prog 19 #[.string s] w
    fun x w' => (∃ A1 c1 A2 c2 A3 c3, x = .returned (.tuple #[.agg #[.int .i64 p.node, .int .i64 p.state, .int .i64 p.steps, .slice A1 p.sent.length c1, .slice A2 p.inn.length c2, .slice A3 p.out.length c3], .int .i64 n]) ∧ PieceIs true w' w.heap.size w'.heap.size (.agg #[.int .i64 p.node, .int .i64 p.state, .int .i64 p.steps, .slice A1 p.sent.length c1, .slice A2 p.inn.length c2, .slice A3 p.out.length c3]) p) ∧ Below w.heap.size w w' := by
  subst hl hp hn
  have hs' : s.size ≤ 1000000 := by
    have : s.size = s.data.toList.length := by rw [Array.length_toList]; rfl
    omega
  refine (decode_any s w hs').mono ?_
  rintro x w' ⟨⟨v, rfl, hv⟩, hb⟩
  have hv' := hv
  obtain ⟨_, _, _, rfl, ⟨A1, c1, rfl, _⟩, ⟨A2, c2, rfl, _⟩, ⟨A3, c3, rfl, _⟩⟩ := hv'
  exact ⟨⟨A1, c1, A2, c2, A3, c3, rfl, hv⟩, hb⟩

def P1 : Pc.Piece := ⟨1, 2, 3, [], [], []⟩
def Q1 : Pc.Piece := ⟨1, 0, 0, [4], [[(2, 3)]], [[0, 1]]⟩
def B1 : Pc.Piece := ⟨6, 0, 0, [], [], []⟩
def s1 : List UInt8 := [1, 2, 3, 0, 0, 0]
def s2 : List UInt8 := [1, 0, 0, 1, 4, 1, 1, 2, 3, 1, 2, 0, 1]

set_option maxRecDepth 100000 in
set_option maxHeartbeats 8000000 in
theorem fixed6_any (w : World) : Calls Try.prog 26 #[] w fun x w' => x = .returned (.bool true) ∧ Below w.heap.size w w' := by
  go_enter Try.func26, Try.ntmps26
  go_wp2_with fail
  refine name_call fun W0 hW0 => ?_
  have bx0 : Box W0 (w.heap.size) #[.int .i64 1, .int .i64 2, .int .i64 3, .slice none 0 0, .slice none 0 0, .slice none 0 0] 26 := hW0 ▸ (((((((Box.new' #[.int .i64 1, .int .i64 2, .int .i64 3, .slice none 0 0, .slice none 0 0, .slice none 0 0] 26 (by simp)).alloc _).alloc _).alloc _).alloc _).alloc _).alloc _)
  have bx1 : Box W0 (w.heap.size + 1) #[.int .i64 4] 3 := hW0 ▸ ((((((Box.new' #[.int .i64 4] 3 (by simp)).alloc _).alloc _).alloc _).alloc _).alloc _)
  have bx2 : Box W0 (w.heap.size + 1 + 1) #[.int .i64 2, .int .i64 3] 47 := hW0 ▸ (((((Box.new' #[.int .i64 2, .int .i64 3] 47 (by simp)).alloc _).alloc _).alloc _).alloc _)
  have bx3 : Box W0 (w.heap.size + 1 + 1 + 1) #[.slice (some ⟨w.heap.size + 1 + 1, 0, none⟩) 1 1] 45 := hW0 ▸ ((((Box.new' #[.slice (some ⟨w.heap.size + 1 + 1, 0, none⟩) 1 1] 45 (by simp)).alloc _).alloc _).alloc _)
  have bx4 : Box W0 (w.heap.size + 1 + 1 + 1 + 1) #[.int .i64 0, .int .i64 1] 3 := hW0 ▸ (((Box.new' #[.int .i64 0, .int .i64 1] 3 (by simp)).alloc _).alloc _)
  have bx5 : Box W0 (w.heap.size + 1 + 1 + 1 + 1 + 1) #[.slice (some ⟨w.heap.size + 1 + 1 + 1 + 1, 0, none⟩) 2 2] 22 := hW0 ▸ ((Box.new' #[.slice (some ⟨w.heap.size + 1 + 1 + 1 + 1, 0, none⟩) 2 2] 22 (by simp)).alloc _)
  have bx6 : Box W0 (w.heap.size + 1 + 1 + 1 + 1 + 1 + 1) #[.int .i64 1, .int .i64 0, .int .i64 0, .slice (some ⟨w.heap.size + 1, 0, none⟩) 1 1, .slice (some ⟨w.heap.size + 1 + 1 + 1, 0, none⟩) 1 1, .slice (some ⟨w.heap.size + 1 + 1 + 1 + 1 + 1, 0, none⟩) 1 1] 26 := hW0 ▸ (Box.new' #[.int .i64 1, .int .i64 0, .int .i64 0, .slice (some ⟨w.heap.size + 1, 0, none⟩) 1 1, .slice (some ⟨w.heap.size + 1 + 1 + 1, 0, none⟩) 1 1, .slice (some ⟨w.heap.size + 1 + 1 + 1 + 1 + 1, 0, none⟩) 1 1] 26 (by simp))
  have hB : Below w.heap.size w W0 := hW0 ▸ (((((((Below.refl _ _).alloc (by simp) _).alloc (by first | (simp; done) | (simp; omega)) _).alloc (by first | (simp; done) | (simp; omega)) _).alloc (by first | (simp; done) | (simp; omega)) _).alloc (by first | (simp; done) | (simp; omega)) _).alloc (by first | (simp; done) | (simp; omega)) _).alloc (by first | (simp; done) | (simp; omega)) _
  have hp : PieceIs false W0 0 W0.heap.size (.agg #[.int .i64 1, .int .i64 2, .int .i64 3, .slice none 0 0, .slice none 0 0, .slice none 0 0]) P1 := ⟨_, _, _, rfl, SliceIs.none_, SliceIs.none_, SliceIs.none_⟩
  have hq : PieceIs false W0 0 W0.heap.size (.agg #[.int .i64 1, .int .i64 0, .int .i64 0, .slice (some ⟨w.heap.size + 1, 0, none⟩) 1 1, .slice (some ⟨w.heap.size + 1 + 1 + 1, 0, none⟩) 1 1, .slice (some ⟨w.heap.size + 1 + 1 + 1 + 1 + 1, 0, none⟩) 1 1]) Q1 := by
    refine ⟨_, _, _, rfl, SliceOn.is_ ?_, SliceOn.is_ ?_, SliceOn.is_ ?_⟩
    · exact SliceOn.of_block (cells := [.int .i64 4]) bx1 (ints_all _ _ _ [4]) ⟨Nat.zero_le _, bx1.lt⟩ rfl (by decide) (by unfold maxLen; omega)
    · refine SliceOn.of_block (cells := [.slice (some ⟨w.heap.size + 1 + 1, 0, none⟩) 1 1]) bx3 ⟨[_], [], rfl, ⟨_, rfl, ?_⟩, rfl⟩ ⟨Nat.zero_le _, bx3.lt⟩ rfl (by decide) (by unfold maxLen; omega)
      exact SliceOn.of_block (r := Rep.msg) (xs := [(2, 3)]) (cells := [.int .i64 2, .int .i64 3]) bx2 ⟨[_, _], [], rfl, rfl, rfl⟩ ⟨Nat.zero_le _, bx2.lt⟩ rfl (by decide) (by unfold maxLen; omega)
    · refine SliceOn.of_block (cells := [.slice (some ⟨w.heap.size + 1 + 1 + 1 + 1, 0, none⟩) 2 2]) bx5 ⟨[_], [], rfl, ⟨_, rfl, ?_⟩, rfl⟩ ⟨Nat.zero_le _, bx5.lt⟩ rfl (by decide) (by unfold maxLen; omega)
      exact SliceOn.of_block (r := Rep.int) (xs := [0, 1]) (cells := [.int .i64 0, .int .i64 1]) bx4 (ints_all _ _ _ [0, 1]) ⟨Nat.zero_le _, bx4.lt⟩ rfl (by decide) (by unfold maxLen; omega)
  clear bx1 bx2 bx3 bx4 bx5 hW0
  refine (encodec (p := P1) (l := s1) (n := 0) hp (by decide) (by decide)).mono ?_
  rintro e w1 ⟨rfl, hb⟩
  replace bx0 := bx0.next hb
  replace bx6 := bx6.next hb
  replace hp := hp.next hb
  replace hq := hq.next hb
  replace hB := hB.trans (hb.mono hB.size)
  clear hb
  obtain ⟨d0, d1, d2, d3, d4, d5⟩ := bx6.six
  unfold s1
  go_wp2_with fail
  clear d0 d1 d2 d3 d4 d5
  refine (encodec (p := Q1) (l := s2) (n := 0) hq (by decide) (by decide)).mono ?_
  rintro e w2 ⟨rfl, hb⟩
  replace bx0 := bx0.next hb
  replace bx6 := bx6.next hb
  replace hp := hp.next hb
  replace hq := hq.next hb
  replace hB := hB.trans (hb.mono hB.size)
  clear hb
  unfold s2
  go_wp2_with fail
  refine (decodec (p := Q1) (n := 0) _ rfl (by decide) (by decide) (by decide)).mono ?_
  rintro e w3 ⟨⟨X1, x1, X2, x2, X3, x3, rfl, hx⟩, hb⟩
  replace bx0 := bx0.next hb
  replace bx6 := bx6.next hb
  replace hp := hp.next hb
  replace hq := hq.next hb
  replace hB := hB.trans (hb.mono hB.size)
  clear hb
  dsimp only [Q1, List.length_cons, List.length_nil] at hx ⊢
  go_wp2_with fail
  refine (decodec (s := ⟨#[1]⟩) (l := [1]) (p := Pc.zero) (n := 4) _ rfl (by decide) (by decide) (by decide)).mono ?_
  rintro e w4 ⟨⟨Y1, y1, Y2, y2, Y3, y3, rfl, hy⟩, hb⟩
  have bx7 := (Box.new w3 #[.int .i64 1, .int .i64 0, .int .i64 0, .slice X1 1 x1, .slice X2 1 x2, .slice X3 1 x3] 26).next hb
  replace hb : Below w3.heap.size w3 w4 := ((Below.refl _ _).alloc (Nat.le_refl _) _).trans (hb.mono (by simp))
  replace bx0 := bx0.next hb
  replace bx6 := bx6.next hb
  replace hp := hp.next hb
  replace hq := hq.next hb
  replace hx := hx.next hb
  replace hB := hB.trans (hb.mono hB.size)
  clear hb
  dsimp only [Pc.zero, List.length_nil] at hy ⊢
  clear hy
  go_wp2_with fail
  refine (encodec (p := B1) (l := []) (n := 4) ⟨_, _, _, rfl, SliceIs.none_, SliceIs.none_, SliceIs.none_⟩ (by decide) (by decide)).mono ?_
  rintro e w5 ⟨rfl, hb⟩
  have by9 := (Box.new w4 #[.int .i64 0, .int .i64 0, .int .i64 0, .slice Y1 0 y1, .slice Y2 0 y2, .slice Y3 0 y3] 26).next hb
  replace hb : Below w4.heap.size w4 w5 := ((Below.refl _ _).alloc (Nat.le_refl _) _).trans (hb.mono (by simp))
  replace bx0 := bx0.next hb
  replace bx6 := bx6.next hb
  replace hp := hp.next hb
  replace hq := hq.next hb
  replace hx := hx.next hb
  replace bx7 := bx7.next hb
  replace hB := hB.trans (hb.mono hB.size)
  clear hb
  go_wp2_with fail
  clear by9
  refine (decodec (l := [1, 2, 3, 0, 0, 0, 0]) (p := Pc.zero) (n := 4) _ rfl (by decide) (by decide) (by decide)).mono ?_
  rintro e w6 ⟨⟨Z1, z1, Z2, z2, Z3, z3, rfl, hy⟩, hb⟩
  replace bx0 := bx0.next hb
  replace bx6 := bx6.next hb
  replace hp := hp.next hb
  replace hq := hq.next hb
  replace hx := hx.next hb
  replace bx7 := bx7.next hb
  replace hB := hB.trans (hb.mono hB.size)
  clear hb
  dsimp only [Pc.zero, List.length_nil] at hy ⊢
  clear hy
  go_wp2_with fail
  refine name_wp fun W1 hW1 => ?_
  have hb : Below w6.heap.size w6 W1 := hW1 ▸ (Below.refl _ _).alloc (Nat.le_refl _) _
  replace bx0 := bx0.next hb
  replace bx6 := bx6.next hb
  replace hp := hp.next hb
  replace hq := hq.next hb
  replace hx := hx.next hb
  replace bx7 := bx7.next hb
  replace hB := hB.trans (hb.mono hB.size)
  clear hb hW1
  replace bx0 := bx0.next ((Below.refl _ _).drew)
  replace bx6 := bx6.next ((Below.refl _ _).drew)
  replace hp := hp.next ((Below.refl _ _).drew)
  replace hq := hq.next ((Below.refl _ _).drew)
  replace hx := hx.next ((Below.refl _ _).drew)
  replace bx7 := bx7.next ((Below.refl _ _).drew)
  replace hB := hB.drew
  have hE := Ext.refl (W1.drew)
  refine region_go 486969851652145152 (by kernel_rfl) ?_
  obtain ⟨c0, c1, c2, c3, c4, c5⟩ := bx7.six
  refine wpAny_go 486969851652145152 0 [0, 1, 2, 3, 4, 5, 6, 7, 8, 9, 10, 11, 12, 13, 14, 15] 65535 45 (by kernel_rfl) (by kernel_rfl) (fun _ _ _ _ _ h => h) (by kernel_rfl) (by rfl) (by rfl) (by kernel_rfl) ?_
  simp only [List.map_cons, List.map_nil, List.getD_cons_succ, List.getD_cons_zero]
  go_wp2_with fail
  change wpAnyM _ _ _ _ _ _ _ _ _ _
  clear c0 c1 c2 c3 c4 c5
  obtain ⟨d0, d1, d2, d3, d4, d5⟩ := bx6.six
  refine wpAny_reads 486969851652145152 65535 [17] 196607 44 (by kernel_rfl) (by kernel_rfl) (fun _ _ _ _ _ h => h) (by kernel_rfl) (by rfl) (by rfl) (by kernel_rfl) ?_
  simp only [List.map_cons, List.map_nil, List.getD_cons_succ, List.getD_cons_zero]
  go_wp2_with fail
  change _ → wpAnyM _ _ _ _ _ _ _ _ _ _; intro _
  clear d0 d1 d2 d3 d4 d5
  refine wpAny_oneM 16 262143 (by kernel_rfl) (by kernel_rfl) (of_decide_eq_true (by kernel_rfl)) (by rfl) ?_
  simp only [List.getD_cons_succ, List.getD_cons_zero]
  go_wp2_with fail
  refine (ref_any _ Q1 _ hx).mono ?_
  rintro e w7 ⟨rfl, hb⟩
  replace bx0 := bx0.next hb
  replace bx6 := bx6.next hb
  replace hp := hp.next hb
  replace hq := hq.next hb
  replace hx := hx.next hb
  replace bx7 := bx7.next hb
  replace hE := hE.trans (Ext.below hb (Nat.le_refl _))
  replace hB := hB.trans (hb.mono hB.size)
  clear hb
  go_wp2_with fail
  refine ⟨fun _ => hE, ?_⟩
  refine wpAny_oneM 18 524287 (by kernel_rfl) (by kernel_rfl) (of_decide_eq_true (by kernel_rfl)) (by rfl) ?_
  simp only [List.getD_cons_succ, List.getD_cons_zero]
  go_wp2_with fail
  refine (ref_any _ Q1 _ hq).mono ?_
  rintro e w8 ⟨rfl, hb⟩
  replace bx0 := bx0.next hb
  replace bx6 := bx6.next hb
  replace hp := hp.next hb
  replace hq := hq.next hb
  replace hx := hx.next hb
  replace bx7 := bx7.next hb
  replace hE := hE.trans (Ext.below hb (Nat.le_refl _))
  replace hB := hB.trans (hb.mono hB.size)
  clear hb
  go_wp2_with fail
  refine ⟨fun _ => hE, ?_⟩
  refine wpAny_oneM 19 1048575 (by kernel_rfl) (by kernel_rfl) (of_decide_eq_true (by kernel_rfl)) (by rfl) ?_
  simp only [List.getD_cons_succ, List.getD_cons_zero]
  go_wp2_with fail
  refine (rsame_any _ _ Q1 Q1 _ hx.zero_ hq).mono ?_
  rintro e w9 ⟨rfl, hb⟩
  replace bx0 := bx0.next hb
  replace bx6 := bx6.next hb
  replace hp := hp.next hb
  replace hq := hq.next hb
  replace hx := hx.next hb
  replace bx7 := bx7.next hb
  replace hE := hE.trans (Ext.below hb (Nat.le_refl _))
  replace hB := hB.trans (hb.mono hB.size)
  clear hb
  rw [show decide (Q1 = Q1) = true from rfl]
  go_wp2_with fail
  refine ⟨fun _ => hE, ?_⟩
  obtain ⟨d0, d1, d2, d3, d4, d5⟩ := bx6.six
  refine wpAny_go 486969851652145152 1048575 [20, 21, 22, 23, 24, 25, 26, 27, 28, 29, 30, 31, 32, 33, 34, 35, 36, 37, 38] 549755813887 22 (by kernel_rfl) (by kernel_rfl) (fun _ _ _ _ _ h => h) (by kernel_rfl) (by rfl) (by rfl) (by kernel_rfl) ?_
  simp only [List.map_cons, List.map_nil, List.getD_cons_succ, List.getD_cons_zero]
  go_wp2_with fail
  change wpAnyM _ _ _ _ _ _ _ _ _ _
  clear d0 d1 d2 d3 d4 d5
  refine wpAny_oneM 39 1099511627775 (by kernel_rfl) (by kernel_rfl) (of_decide_eq_true (by kernel_rfl)) (by rfl) ?_
  simp only [List.getD_cons_succ, List.getD_cons_zero]
  go_wp2_with fail
  refine (right_any _ Q1 _ hq).mono ?_
  rintro e w10 ⟨rfl, hb⟩
  replace bx0 := bx0.next hb
  replace bx6 := bx6.next hb
  replace hp := hp.next hb
  replace hq := hq.next hb
  replace hx := hx.next hb
  replace bx7 := bx7.next hb
  replace hE := hE.trans (Ext.below hb (Nat.le_refl _))
  replace hB := hB.trans (hb.mono hB.size)
  clear hb
  rw [show Pc.right Q1 = true from by decide]
  go_wp2_with fail
  refine ⟨fun _ => hE, ?_⟩
  obtain ⟨d0, d1, d2, d3, d4, d5⟩ := bx6.six
  refine wpAny_go 486969851652145152 1099511627775 [40, 41, 42, 43] 17592186044415 17 (by kernel_rfl) (by kernel_rfl) (fun _ _ _ _ _ h => h) (by kernel_rfl) (by rfl) (by rfl) (by kernel_rfl) ?_
  simp only [List.map_cons, List.map_nil, List.getD_cons_succ, List.getD_cons_zero]
  go_wp2_with fail
  change wpAnyM _ _ _ _ _ _ _ _ _ _
  clear d0 d1 d2 d3 d4 d5
  refine wpAny_oneM 44 35184372088831 (by kernel_rfl) (by kernel_rfl) (of_decide_eq_true (by kernel_rfl)) (by rfl) ?_
  simp only [List.getD_cons_succ, List.getD_cons_zero]
  go_wp2_with fail
  refine (same_any _ _ Q1 Q1 _ hq hq).mono ?_
  rintro e w11 ⟨rfl, hb⟩
  replace bx0 := bx0.next hb
  replace bx6 := bx6.next hb
  replace hp := hp.next hb
  replace hq := hq.next hb
  replace hx := hx.next hb
  replace bx7 := bx7.next hb
  replace hE := hE.trans (Ext.below hb (Nat.le_refl _))
  replace hB := hB.trans (hb.mono hB.size)
  clear hb
  rw [show decide (Q1 = Q1) = true from rfl]
  go_wp2_with fail
  refine ⟨fun _ => hE, ?_⟩
  obtain ⟨c0, c1, c2, c3, c4, c5⟩ := bx0.six
  obtain ⟨d0, d1, d2, d3, d4, d5⟩ := bx6.six
  refine wpAny_go 486969851652145152 35184372088831 [45, 46, 47, 48] 562949953421311 12 (by kernel_rfl) (by kernel_rfl) (fun _ _ _ _ _ h => h) (by kernel_rfl) (by rfl) (by rfl) (by kernel_rfl) ?_
  simp only [List.map_cons, List.map_nil, List.getD_cons_succ, List.getD_cons_zero]
  go_wp2_with fail
  change wpAnyM _ _ _ _ _ _ _ _ _ _
  clear c0 c1 c2 c3 c4 c5
  clear d0 d1 d2 d3 d4 d5
  refine wpAny_oneM 49 1125899906842623 (by kernel_rfl) (by kernel_rfl) (of_decide_eq_true (by kernel_rfl)) (by rfl) ?_
  simp only [List.getD_cons_succ, List.getD_cons_zero]
  go_wp2_with fail
  refine (same_any _ _ P1 Q1 _ hp hq).mono ?_
  rintro e w12 ⟨rfl, hb⟩
  replace bx0 := bx0.next hb
  replace bx6 := bx6.next hb
  replace hp := hp.next hb
  replace hq := hq.next hb
  replace hx := hx.next hb
  replace bx7 := bx7.next hb
  replace hE := hE.trans (Ext.below hb (Nat.le_refl _))
  replace hB := hB.trans (hb.mono hB.size)
  clear hb
  rw [show decide (P1 = Q1) = false from by decide]
  go_wp2_with fail
  refine ⟨fun _ => hE, ?_⟩
  obtain ⟨d0, d1, d2, d3, d4, d5⟩ := bx6.six
  refine wpAny_go 486969851652145152 1125899906842623 [50, 51, 52, 53] 18014398509481983 7 (by kernel_rfl) (by kernel_rfl) (fun _ _ _ _ _ h => h) (by kernel_rfl) (by rfl) (by rfl) (by kernel_rfl) ?_
  simp only [List.map_cons, List.map_nil, List.getD_cons_succ, List.getD_cons_zero]
  go_wp2_with fail
  change wpAnyM _ _ _ _ _ _ _ _ _ _
  clear d0 d1 d2 d3 d4 d5
  obtain ⟨d0, d1, d2, d3, d4, d5⟩ := bx6.six
  refine wpAnyM_rebase hE _ _ _ _ ?_
  clear hE
  have hE := Ext.refl w12
  refine wpAny_reads 486969851652145152 18014398509481983 [56] 90071992547409919 6 (by kernel_rfl) (by kernel_rfl) (fun _ _ _ _ _ h => h) (by kernel_rfl) (by rfl) (by rfl) (by kernel_rfl) ?_
  simp only [List.map_cons, List.map_nil, List.getD_cons_succ, List.getD_cons_zero]
  go_wp2_with fail
  change _ → wpAnyM _ _ _ _ _ _ _ _ _ _; intro _
  clear d0 d1 d2 d3 d4 d5
  refine wpAny_oneM 54 108086391056891903 (by kernel_rfl) (by kernel_rfl) (of_decide_eq_true (by kernel_rfl)) (by rfl) ?_
  simp only [List.getD_cons_succ, List.getD_cons_zero]
  go_wp2_with fail
  refine (Own_any _ Q1 _ hq ⟨by decide, by decide, by decide, by decide, by decide⟩).mono ?_
  rintro e w13 ⟨⟨v6, rfl, hz⟩, hb⟩
  replace bx0 := bx0.next hb
  replace bx6 := bx6.next hb
  replace hp := hp.next hb
  replace hq := hq.next hb
  replace hx := hx.next hb
  replace bx7 := bx7.next hb
  replace hE := hE.trans (Ext.below hb (Nat.le_refl _))
  replace hB := hB.trans (hb.mono hB.size)
  clear hb
  go_wp2_with fail
  refine ⟨fun _ => hE, ?_⟩
  refine wpAny_oneM 55 144115188075855871 (by kernel_rfl) (by kernel_rfl) (of_decide_eq_true (by kernel_rfl)) (by rfl) ?_
  simp only [List.getD_cons_succ, List.getD_cons_zero]
  go_wp2_with fail
  refine (ref_any _ Q1 _ hz).mono ?_
  rintro e w14 ⟨rfl, hb⟩
  replace bx0 := bx0.next hb
  replace bx6 := bx6.next hb
  replace hp := hp.next hb
  replace hq := hq.next hb
  replace hx := hx.next hb
  replace bx7 := bx7.next hb
  replace hz := hz.next hb
  replace hE := hE.trans (Ext.below hb (Nat.le_refl _))
  replace hB := hB.trans (hb.mono hB.size)
  clear hb
  go_wp2_with fail
  refine ⟨fun _ => hE, ?_⟩
  refine wpAny_oneM 57 288230376151711743 (by kernel_rfl) (by kernel_rfl) (of_decide_eq_true (by kernel_rfl)) (by rfl) ?_
  simp only [List.getD_cons_succ, List.getD_cons_zero]
  go_wp2_with fail
  refine (ref_any _ Q1 _ hq).mono ?_
  rintro e w15 ⟨rfl, hb⟩
  replace bx0 := bx0.next hb
  replace bx6 := bx6.next hb
  replace hp := hp.next hb
  replace hq := hq.next hb
  replace hx := hx.next hb
  replace bx7 := bx7.next hb
  replace hz := hz.next hb
  replace hE := hE.trans (Ext.below hb (Nat.le_refl _))
  replace hB := hB.trans (hb.mono hB.size)
  clear hb
  go_wp2_with fail
  refine ⟨fun _ => hE, ?_⟩
  refine wpAny_oneM 58 576460752303423487 (by kernel_rfl) (by kernel_rfl) (of_decide_eq_true (by kernel_rfl)) (by rfl) ?_
  simp only [List.getD_cons_succ, List.getD_cons_zero]
  go_wp2_with fail
  refine (rsame_any _ _ Q1 Q1 _ hz.zero_ hq).mono ?_
  rintro e w16 ⟨rfl, hb⟩
  replace bx0 := bx0.next hb
  replace bx6 := bx6.next hb
  replace hp := hp.next hb
  replace hq := hq.next hb
  replace hx := hx.next hb
  replace bx7 := bx7.next hb
  replace hz := hz.next hb
  replace hE := hE.trans (Ext.below hb (Nat.le_refl _))
  replace hB := hB.trans (hb.mono hB.size)
  clear hb
  rw [show decide (Q1 = Q1) = true from rfl]
  go_wp2_with fail
  refine ⟨fun _ => hE, ?_⟩
  refine wpAny_go 486969851652145152 576460752303423487 [59, 60] 2305843009213693951 0 (by kernel_rfl) (by kernel_rfl) (fun _ _ _ _ _ h => h) (by kernel_rfl) (by rfl) (by rfl) (by kernel_rfl) ?_
  simp only [List.map_cons, List.map_nil, List.getD_cons_succ, List.getD_cons_zero]
  go_wp2_with fail
  change wpAnyM _ _ _ _ _ _ _ _ _ _
  refine wpAny_endM (by kernel_rfl) (by kernel_rfl) ?_
  go_wp2_with fail
  go_ret
  exact ⟨rfl, hB⟩
end Go.Proofs.Ytdfgnmdofjhnkaa
