/- Lemmas, walks and contracts that the statements of this seat are proved by. -/
import Derived.Test.YtdfgnmdofjhnkaaG2
import Derived.Test.YtdfgnmdofjhnkaaG1
/- A piece in memory. -/
namespace Go.Proofs.Ytdfgnmdofjhnkaa
open Go.RowKit

@[go_sem high] theorem run_max_ints3 {P : Program} (w : World) (ts : Array TypeId) (t : TypeId) (k k' k'' : IntKind) (x y z : Int) :
    (Builtin.max_ ts t #[.int k x, .int k' y, .int k'' z]).run P w = .ok (.int k (max (max x y) z)) w := by
  have e : ∀ x y : Int, (if y > x then y else x) = max x y := by
    intro x y
    rw [Int.max_def]
    split <;> split <;> omega
  simp [Builtin.max_, Builtin.max2, e]

/-- A piece: six cells. -/
def Rep.piece : Rep Pc.Piece where
  size := 6
  pos := by omega
  is fr w S cs p := ∃ a b c, cs = [.int .i64 p.node, .int .i64 p.state, .int .i64 p.steps, a, b, c] ∧ SliceOn Rep.int fr w S a p.sent ∧ SliceOn Rep.msg.slice fr w S b p.inn ∧ SliceOn Rep.int.slice fr w S c p.out
  len h := by obtain ⟨a, b, c, rfl, _⟩ := h; rfl
  keep h hk := by obtain ⟨a, b, c, rfl, h1, h2, h3⟩ := h; exact ⟨a, b, c, rfl, h1.keep hk, h2.keep hk, h3.keep hk⟩
  widen h k1 := by obtain ⟨a, b, c, rfl, h1, h2, h3⟩ := h; exact ⟨a, b, c, rfl, h1.widen k1, h2.widen k1, h3.widen k1⟩
  soft h := by obtain ⟨a, b, c, rfl, h1, h2, h3⟩ := h; exact ⟨a, b, c, rfl, h1.soft, h2.soft, h3.soft⟩
  one h := by
    obtain ⟨a, b, c, rfl, ⟨_, _, rfl, _⟩, ⟨_, _, rfl, _⟩, ⟨_, _, rfl, _⟩⟩ := h
    intro u hu
    simp at hu
    rcases hu with rfl | rfl | rfl | rfl | rfl | rfl <;> rfl

/-- A piece by value. -/
def PieceIs (fr : Bool) (w : World) (lo hi : Nat) (v : Value) (p : Pc.Piece) : Prop :=
  ∃ a b c, v = .agg #[.int .i64 p.node, .int .i64 p.state, .int .i64 p.steps, a, b, c] ∧ SliceIs Rep.int fr w lo hi a p.sent ∧ SliceIs Rep.msg.slice fr w lo hi b p.inn ∧ SliceIs Rep.int.slice fr w lo hi c p.out

section
variable {fr : Bool} {w w' : World} {lo hi lo' hi' : Nat} {v : Value} {p : Pc.Piece}
theorem PieceIs.keep (h : PieceIs fr w lo hi v p) (hk : ∀ b, lo ≤ b → b < hi → w'.heap[b]? = w.heap[b]?) : PieceIs fr w' lo hi v p := by
  obtain ⟨a, b, c, rfl, h1, h2, h3⟩ := h; exact ⟨a, b, c, rfl, h1.keep hk, h2.keep hk, h3.keep hk⟩
theorem PieceIs.below {B : Nat} (h : PieceIs fr w lo hi v p) (hb : Below B w w') (hB : hi ≤ B) : PieceIs fr w' lo hi v p := h.keep fun b _ h2 => hb.block b (by omega)
theorem PieceIs.widen (h : PieceIs fr w lo hi v p) (k1 : lo' ≤ lo) (k2 : hi ≤ hi') : PieceIs fr w lo' hi' v p := by
  obtain ⟨a, b, c, rfl, h1, h2, h3⟩ := h; exact ⟨a, b, c, rfl, h1.widen k1 k2, h2.widen k1 k2, h3.widen k1 k2⟩
theorem PieceIs.soft (h : PieceIs fr w lo hi v p) : PieceIs false w lo hi v p := by
  obtain ⟨a, b, c, rfl, h1, h2, h3⟩ := h; exact ⟨a, b, c, rfl, h1.soft, h2.soft, h3.soft⟩
theorem PieceIs.of_cells {cs : List Value} (h : Rep.piece.is fr w (rng lo hi) cs p) : PieceIs fr w lo hi (.agg cs.toArray) p := by
  obtain ⟨a, b, c, rfl, h1⟩ := h; exact ⟨a, b, c, rfl, h1⟩
theorem PieceIs.cells (h : PieceIs fr w lo hi v p) : ∃ cs : List Value, v = .agg cs.toArray ∧ Rep.piece.is fr w (rng lo hi) cs p := by
  obtain ⟨a, b, c, rfl, h1⟩ := h; exact ⟨_, rfl, a, b, c, rfl, h1⟩
end
end Go.Proofs.Ytdfgnmdofjhnkaa

/- Equality of lists: slices.Equal, slices.EqualFunc, the document's Ints and Msgs. -/
namespace Go.Proofs.Ytdfgnmdofjhnkaa
open Go.RowKit

namespace Pc
theorem like_next {α : Type} {xs ys : List α} {j : Nat} {x : α} (h : xs.take j = ys.take j) (hx : xs[j]? = some x) (hy : ys[j]? = some x) : xs.take (j + 1) = ys.take (j + 1) := by
  rw [List.take_add_one, List.take_add_one, h, hx, hy]
theorem like_no {α : Type} [DecidableEq α] {xs ys : List α} {j : Nat} {x y : α} (hx : xs[j]? = some x) (hy : ys[j]? = some y) (h : x ≠ y) : decide (xs = ys) = false := by
  apply decide_eq_false
  rintro rfl
  rw [hx] at hy; injection hy with hy; exact h hy
theorem like_end {α : Type} [DecidableEq α] {xs ys : List α} {j : Nat} (hn : xs.length = ys.length) (hj : ¬ j < xs.length) (h : xs.take j = ys.take j) : decide (xs = ys) = true := by
  apply decide_eq_true
  rwa [List.take_of_length_le (by omega), List.take_of_length_le (by omega)] at h
theorem like_len {α : Type} [DecidableEq α] {xs ys : List α} (hn : xs.length ≠ ys.length) : decide (xs = ys) = false := by
  apply decide_eq_false
  rintro rfl
  exact hn rfl
end Pc
def Quiet (w w' : World) : Prop := ∃ n, w' = w.drewN n
theorem Quiet.refl (w : World) : Quiet w w := ⟨0, rfl⟩
theorem Quiet.drewN {w w' : World} (h : Quiet w w') (n : Nat) : Quiet w (w'.drewN n) := by
  obtain ⟨m, rfl⟩ := h; exact ⟨m + n, by rw [World.drewN_drewN]⟩
theorem Quiet.trans {a b c : World} (h : Quiet a b) (h' : Quiet b c) : Quiet a c := by
  obtain ⟨n, rfl⟩ := h'; exact h.drewN n
theorem Quiet.below {B : Nat} {w w' : World} (h : Quiet w w') : Below B w w' := by
  obtain ⟨n, rfl⟩ := h; exact below_drewN (Below.refl _ _) n
theorem Quiet.heap {w w' : World} (h : Quiet w w') : w'.heap = w.heap := by
  obtain ⟨n, rfl⟩ := h; rfl
theorem Quiet.size {w w' : World} (h : Quiet w w') : w'.heap.size = w.heap.size := by rw [h.heap]
theorem Quiet.slice {α : Type} {r : Rep α} {fr : Bool} {lo hi : Nat} {w w' : World} {v : Value} {xs : List α} (h : Quiet w w') (hs : SliceIs r fr w lo hi v xs) : SliceIs r fr w' lo hi v xs := hs.keep fun _ _ _ => by rw [h.heap]
theorem Quiet.at_ {α : Type} {r : Rep α} {fr : Bool} {lo hi : Nat} {w w' : World} {A : Option Addr} {xs : List α} (h : Quiet w w') (hs : SliceAt r fr w lo hi A xs) : SliceAt r fr w' lo hi A xs := hs.keep fun _ _ _ => by rw [h.heap]


theorem msgs_apart (v u : Value) (xs ys : List (Int × Int)) (w : World) (h : SliceIs Rep.msg false w 0 w.heap.size v xs) (h' : SliceIs Rep.msg false w 0 w.heap.size u ys) (hne : xs.length ≠ ys.length) :
    Calls Try.prog 64 #[v, u] w fun x w' => x = .returned (.bool false) ∧ Quiet w w' := by
  obtain ⟨A, c, rfl, l1, m1, _⟩ := h
  obtain ⟨A', c', rfl, l2, m2, _⟩ := h'
  have e : (((xs.length : Nat) : Int) != ((ys.length : Nat) : Int)) = true := by rw [bne_iff_ne]; omega
  clear hne
  unfold maxLen at m1 m2
  go_enter Try.func64, Try.ntmps64
  go_wp2_with fail
  go_ret
  exact ⟨rfl, Quiet.refl _⟩

set_option maxRecDepth 100000 in
set_option maxHeartbeats 2000000 in
theorem msgs_like (v u : Value) (xs ys : List (Int × Int)) (w : World) (h : SliceIs Rep.msg false w 0 w.heap.size v xs) (h' : SliceIs Rep.msg false w 0 w.heap.size u ys) (hne : xs.length = ys.length) :
    Calls Try.prog 64 #[v, u] w fun x w' => x = .returned (.bool (decide (xs = ys))) ∧ Quiet w w' := by
  obtain ⟨A, c, rfl, l1, m1, h1⟩ := h
  obtain ⟨A', c', rfl, l2, m2, h2⟩ := h'
  rw [← hne] at l2 ⊢
  have HN := Lib.hid hne; clear hne
  generalize hd : decide (xs = ys) = d
  have HD := Lib.hid hd; clear hd
  unfold maxLen at m1 m2
  go_enter Try.func64, Try.ntmps64
  go_wp2_with fail
  go_loopg [5] xs.length (fun k i wr => ∃ j : Nat, i = .int .i64 (j : Int) ∧ j ≤ xs.length ∧ k = xs.length - j ∧ xs.take j = ys.take j ∧ Quiet w wr)
  case atStart => exact ⟨0, rfl, by omega, by omega, rfl, Quiet.refl _⟩
  case round =>
    obtain ⟨j, rfl, hj, hk, hl, hb⟩ := hrel
    have HL := Lib.hid hl; clear hl
    have HK := Lib.hid hk; clear hk
    by_cases hlt : j < xs.length
    · obtain ⟨x, hx⟩ := Pc.get_at hlt
      obtain ⟨y, hy⟩ := Pc.get_at (l := ys) (j := j) (by have := HN.out; omega)
      obtain ⟨x, x'⟩ := x
      obtain ⟨y, y'⟩ := y
      obtain ⟨g, o, rfl, _, _, c0, c1⟩ := (hb.at_ h1).msg hx
      obtain ⟨g', o', rfl, _, _, c0', c1'⟩ := (hb.at_ h2).msg hy
      dsimp only at c0 c1 c0' c1'
      have HX := Lib.hid hx; clear hx
      have HY := Lib.hid hy; clear hy
      clear h1 h2
      by_cases hxy : x = y
      · subst hxy
        by_cases hxy' : x' = y'
        · subst hxy'
          have hbn : (x == x) = true := by simp
          have hbn' : (x' == x') = true := by simp
          go_wp2_with fail
          go_quiet (fail)
          go_wp2_with fail
          go_roundg (xs.length - (j + 1))
          case rel => exact ⟨j + 1, by simp, by omega, rfl, Pc.like_next HL.out HX.out HY.out, hb.drewN _⟩
          case measure => have := HK.out; omega
        · have HXY := Lib.hid hxy'
          have hbn : (x == x) = true := by simp
          have hbn' : (x' == y') = false := by simpa using hxy'
          clear hxy'
          go_wp2_with fail
          go_quiet (fail)
          go_wp2_with fail
          go_ret
          exact ⟨by rw [← HD.out, Pc.like_no HX.out HY.out (fun e => HXY.out (by injection e))]; rfl, hb.drewN _⟩
      · have HXY := Lib.hid hxy
        have hbn : (x == y) = false := by simpa using hxy
        clear hxy
        go_wp2_with fail
        go_quiet (fail)
        go_wp2_with fail
        go_ret
        exact ⟨by rw [← HD.out, Pc.like_no HX.out HY.out (fun e => HXY.out (by injection e))]; rfl, hb.drewN _⟩
    · go_wp2_with fail
      go_ret
      exact ⟨by rw [← HD.out, Pc.like_end HN.out hlt HL.out]; rfl, hb⟩

theorem msgs_any (v u : Value) (xs ys : List (Int × Int)) (w : World) (h : SliceIs Rep.msg false w 0 w.heap.size v xs) (h' : SliceIs Rep.msg false w 0 w.heap.size u ys) :
    Calls Try.prog 64 #[v, u] w fun x w' => x = .returned (.bool (decide (xs = ys))) ∧ Quiet w w' := by
  by_cases hne : xs.length = ys.length
  · exact msgs_like v u xs ys w h h' hne
  · rw [Pc.like_len hne]
    exact msgs_apart v u xs ys w h h' hne

theorem rints_apart (v u : Value) (xs ys : List Int) (w : World) (h : SliceIs Rep.int false w 0 w.heap.size v xs) (h' : SliceIs Rep.int false w 0 w.heap.size u ys) (hne : xs.length ≠ ys.length) :
    Calls Try.prog 28 #[v, u] w fun x w' => x = .returned (.bool false) ∧ Quiet w w' := by
  obtain ⟨A, c, rfl, l1, m1, _⟩ := h
  obtain ⟨A', c', rfl, l2, m2, _⟩ := h'
  have e : (((xs.length : Nat) : Int) != ((ys.length : Nat) : Int)) = true := by rw [bne_iff_ne]; omega
  clear hne
  unfold maxLen at m1 m2
  go_enter Try.func28, Try.ntmps28
  go_wp2_with fail
  go_ret
  exact ⟨rfl, Quiet.refl _⟩

set_option maxRecDepth 100000 in
set_option maxHeartbeats 2000000 in
theorem rints_like (v u : Value) (xs ys : List Int) (w : World) (h : SliceIs Rep.int false w 0 w.heap.size v xs) (h' : SliceIs Rep.int false w 0 w.heap.size u ys) (hne : xs.length = ys.length) :
    Calls Try.prog 28 #[v, u] w fun x w' => x = .returned (.bool (decide (xs = ys))) ∧ Quiet w w' := by
  obtain ⟨A, c, rfl, l1, m1, h1⟩ := h
  obtain ⟨A', c', rfl, l2, m2, h2⟩ := h'
  rw [← hne] at l2 ⊢
  have HN := Lib.hid hne; clear hne
  generalize hd : decide (xs = ys) = d
  have HD := Lib.hid hd; clear hd
  unfold maxLen at m1 m2
  go_enter Try.func28, Try.ntmps28
  go_wp2_with fail
  go_loopg [5] xs.length (fun k i wr => ∃ j : Nat, i = .int .i64 (j : Int) ∧ j ≤ xs.length ∧ k = xs.length - j ∧ xs.take j = ys.take j ∧ Quiet w wr)
  case atStart => exact ⟨0, rfl, by omega, by omega, rfl, Quiet.refl _⟩
  case round =>
    obtain ⟨j, rfl, hj, hk, hl, hb⟩ := hrel
    have HL := Lib.hid hl; clear hl
    have HK := Lib.hid hk; clear hk
    by_cases hlt : j < xs.length
    · obtain ⟨x, hx⟩ := Pc.get_at hlt
      obtain ⟨y, hy⟩ := Pc.get_at (l := ys) (j := j) (by have := HN.out; omega)
      obtain ⟨g, o, rfl, _, _, c0⟩ := (hb.at_ h1).int hx
      obtain ⟨g', o', rfl, _, _, c0'⟩ := (hb.at_ h2).int hy
      have HX := Lib.hid hx; clear hx
      have HY := Lib.hid hy; clear hy
      clear h1 h2
      by_cases hxy : x = y
      · subst hxy
        have hbn : (x != x) = false := by simp
        go_wp2_with fail
        go_quiet (fail)
        go_wp2_with fail
        go_roundg (xs.length - (j + 1))
        case rel => exact ⟨j + 1, by simp, by omega, rfl, Pc.like_next HL.out HX.out HY.out, hb.drewN _⟩
        case measure => have := HK.out; omega
      · have HXY := Lib.hid hxy
        have hbn : (x != y) = true := by simpa using hxy
        clear hxy
        go_wp2_with fail
        go_quiet (fail)
        go_wp2_with fail
        go_ret
        exact ⟨by rw [← HD.out, Pc.like_no HX.out HY.out HXY.out]; rfl, hb.drewN _⟩
    · go_wp2_with fail
      go_ret
      exact ⟨by rw [← HD.out, Pc.like_end HN.out hlt HL.out]; rfl, hb⟩

theorem rints_any (v u : Value) (xs ys : List Int) (w : World) (h : SliceIs Rep.int false w 0 w.heap.size v xs) (h' : SliceIs Rep.int false w 0 w.heap.size u ys) :
    Calls Try.prog 28 #[v, u] w fun x w' => x = .returned (.bool (decide (xs = ys))) ∧ Quiet w w' := by
  by_cases hne : xs.length = ys.length
  · exact rints_like v u xs ys w h h' hne
  · rw [Pc.like_len hne]
    exact rints_apart v u xs ys w h h' hne
end Go.Proofs.Ytdfgnmdofjhnkaa

/- Equality of lists, for piece.Same: slices.Equal, slices.EqualFunc. -/
namespace Go.Proofs.Ytdfgnmdofjhnkaa
open Go.RowKit


theorem eqInts_apart (v u : Value) (xs ys : List Int) (w : World) (h : SliceIs Rep.int false w 0 w.heap.size v xs) (h' : SliceIs Rep.int false w 0 w.heap.size u ys) (hne : xs.length ≠ ys.length) :
    Calls Try.prog 60 #[v, u] w fun x w' => x = .returned (.bool false) ∧ Quiet w w' := by
  obtain ⟨A, c, rfl, l1, m1, _⟩ := h
  obtain ⟨A', c', rfl, l2, m2, _⟩ := h'
  have e : (((xs.length : Nat) : Int) != ((ys.length : Nat) : Int)) = true := by rw [bne_iff_ne]; omega
  clear hne
  unfold maxLen at m1 m2
  go_enter Try.func60, Try.ntmps60
  go_wp2_with fail
  go_ret
  exact ⟨rfl, Quiet.refl _⟩

set_option maxRecDepth 100000 in
set_option maxHeartbeats 2000000 in
theorem eqInts_like (v u : Value) (xs ys : List Int) (w : World) (h : SliceIs Rep.int false w 0 w.heap.size v xs) (h' : SliceIs Rep.int false w 0 w.heap.size u ys) (hne : xs.length = ys.length) :
    Calls Try.prog 60 #[v, u] w fun x w' => x = .returned (.bool (decide (xs = ys))) ∧ Quiet w w' := by
  obtain ⟨A, c, rfl, l1, m1, h1⟩ := h
  obtain ⟨A', c', rfl, l2, m2, h2⟩ := h'
  rw [← hne] at l2 ⊢
  have HN := Lib.hid hne; clear hne
  generalize hd : decide (xs = ys) = d
  have HD := Lib.hid hd; clear hd
  unfold maxLen at m1 m2
  go_enter Try.func60, Try.ntmps60
  go_wp2_with fail
  go_loopg [5, 13] xs.length (fun k _ i wr => ∃ j : Nat, i = .int .i64 (j : Int) ∧ j ≤ xs.length ∧ k = xs.length - j ∧ xs.take j = ys.take j ∧ Quiet w wr)
  case atStart => exact ⟨0, rfl, by omega, by omega, rfl, Quiet.refl _⟩
  case round =>
    obtain ⟨j, rfl, hj, hk, hl, hb⟩ := hrel
    have HL := Lib.hid hl; clear hl
    have HK := Lib.hid hk; clear hk
    by_cases hlt : j < xs.length
    · obtain ⟨x, hx⟩ := Pc.get_at hlt
      obtain ⟨y, hy⟩ := Pc.get_at (l := ys) (j := j) (by have := HN.out; omega)
      obtain ⟨g, o, rfl, _, _, c0⟩ := (hb.at_ h1).int hx
      obtain ⟨g', o', rfl, _, _, c0'⟩ := (hb.at_ h2).int hy
      have HX := Lib.hid hx; clear hx
      have HY := Lib.hid hy; clear hy
      clear h1 h2
      by_cases hxy : x = y
      · subst hxy
        have hbn : (x != x) = false := by simp
        go_wp2_with fail
        go_quiet (fail)
        go_wp2_with fail
        go_roundg (xs.length - (j + 1))
        case rel => exact ⟨j + 1, by simp, by omega, rfl, Pc.like_next HL.out HX.out HY.out, hb.drewN _⟩
        case measure => have := HK.out; omega
      · have HXY := Lib.hid hxy
        have hbn : (x != y) = true := by simpa using hxy
        clear hxy
        go_wp2_with fail
        go_quiet (fail)
        go_wp2_with fail
        go_ret
        exact ⟨by rw [← HD.out, Pc.like_no HX.out HY.out HXY.out]; rfl, hb.drewN _⟩
    · go_wp2_with fail
      go_ret
      exact ⟨by rw [← HD.out, Pc.like_end HN.out hlt HL.out]; rfl, hb⟩

theorem eqInts_any (v u : Value) (xs ys : List Int) (w : World) (h : SliceIs Rep.int false w 0 w.heap.size v xs) (h' : SliceIs Rep.int false w 0 w.heap.size u ys) :
    Calls Try.prog 60 #[v, u] w fun x w' => x = .returned (.bool (decide (xs = ys))) ∧ Quiet w w' := by
  by_cases hne : xs.length = ys.length
  · exact eqInts_like v u xs ys w h h' hne
  · rw [Pc.like_len hne]
    exact eqInts_apart v u xs ys w h h' hne

theorem eqMsgs_apart (v u : Value) (xs ys : List (Int × Int)) (w : World) (h : SliceIs Rep.msg false w 0 w.heap.size v xs) (h' : SliceIs Rep.msg false w 0 w.heap.size u ys) (hne : xs.length ≠ ys.length) :
    Calls Try.prog 62 #[v, u] w fun x w' => x = .returned (.bool false) ∧ Quiet w w' := by
  obtain ⟨A, c, rfl, l1, m1, _⟩ := h
  obtain ⟨A', c', rfl, l2, m2, _⟩ := h'
  have e : (((xs.length : Nat) : Int) != ((ys.length : Nat) : Int)) = true := by rw [bne_iff_ne]; omega
  clear hne
  unfold maxLen at m1 m2
  go_enter Try.func62, Try.ntmps62
  go_wp2_with fail
  go_ret
  exact ⟨rfl, Quiet.refl _⟩

set_option maxRecDepth 100000 in
set_option maxHeartbeats 2000000 in
theorem eqMsgs_like (v u : Value) (xs ys : List (Int × Int)) (w : World) (h : SliceIs Rep.msg false w 0 w.heap.size v xs) (h' : SliceIs Rep.msg false w 0 w.heap.size u ys) (hne : xs.length = ys.length) :
    Calls Try.prog 62 #[v, u] w fun x w' => x = .returned (.bool (decide (xs = ys))) ∧ Quiet w w' := by
  obtain ⟨A, c, rfl, l1, m1, h1⟩ := h
  obtain ⟨A', c', rfl, l2, m2, h2⟩ := h'
  rw [← hne] at l2 ⊢
  have HN := Lib.hid hne; clear hne
  generalize hd : decide (xs = ys) = d
  have HD := Lib.hid hd; clear hd
  unfold maxLen at m1 m2
  go_enter Try.func62, Try.ntmps62
  go_wp2_with fail
  go_loopg [5, 13] xs.length (fun k _ i wr => ∃ j : Nat, i = .int .i64 (j : Int) ∧ j ≤ xs.length ∧ k = xs.length - j ∧ xs.take j = ys.take j ∧ Quiet w wr)
  case atStart => exact ⟨0, rfl, by omega, by omega, rfl, Quiet.refl _⟩
  case round =>
    obtain ⟨j, rfl, hj, hk, hl, hb⟩ := hrel
    have HL := Lib.hid hl; clear hl
    have HK := Lib.hid hk; clear hk
    by_cases hlt : j < xs.length
    · obtain ⟨x, hx⟩ := Pc.get_at hlt
      obtain ⟨y, hy⟩ := Pc.get_at (l := ys) (j := j) (by have := HN.out; omega)
      obtain ⟨x, x'⟩ := x
      obtain ⟨y, y'⟩ := y
      obtain ⟨g, o, rfl, _, _, c0, c1⟩ := (hb.at_ h1).msg hx
      obtain ⟨g', o', rfl, _, _, c0', c1'⟩ := (hb.at_ h2).msg hy
      dsimp only at c0 c1 c0' c1'
      have HX := Lib.hid hx; clear hx
      have HY := Lib.hid hy; clear hy
      clear h1 h2
      by_cases hxy : x = y
      · subst hxy
        by_cases hxy' : x' = y'
        · subst hxy'
          have hbn : (x == x) = true := by simp
          have hbn' : (x' == x') = true := by simp
          go_wp2_with fail
          go_quiet (fail)
          go_wp2_with fail
          go_roundg (xs.length - (j + 1))
          case rel => exact ⟨j + 1, by simp, by omega, rfl, Pc.like_next HL.out HX.out HY.out, hb.drewN _⟩
          case measure => have := HK.out; omega
        · have HXY := Lib.hid hxy'
          have hbn : (x == x) = true := by simp
          have hbn' : (x' == y') = false := by simpa using hxy'
          clear hxy'
          go_wp2_with fail
          go_quiet (fail)
          go_wp2_with fail
          go_ret
          exact ⟨by rw [← HD.out, Pc.like_no HX.out HY.out (fun e => HXY.out (by injection e))]; rfl, hb.drewN _⟩
      · have HXY := Lib.hid hxy
        have hbn : (x == y) = false := by simpa using hxy
        clear hxy
        go_wp2_with fail
        go_quiet (fail)
        go_wp2_with fail
        go_ret
        exact ⟨by rw [← HD.out, Pc.like_no HX.out HY.out (fun e => HXY.out (by injection e))]; rfl, hb.drewN _⟩
    · go_wp2_with fail
      go_ret
      exact ⟨by rw [← HD.out, Pc.like_end HN.out hlt HL.out]; rfl, hb⟩

theorem eqMsgs_any (v u : Value) (xs ys : List (Int × Int)) (w : World) (h : SliceIs Rep.msg false w 0 w.heap.size v xs) (h' : SliceIs Rep.msg false w 0 w.heap.size u ys) :
    Calls Try.prog 62 #[v, u] w fun x w' => x = .returned (.bool (decide (xs = ys))) ∧ Quiet w w' := by
  by_cases hne : xs.length = ys.length
  · exact eqMsgs_like v u xs ys w h h' hne
  · rw [Pc.like_len hne]
    exact eqMsgs_apart v u xs ys w h h' hne

theorem eqfMsgs_apart (v u : Value) (xs ys : List (List (Int × Int))) (w : World) (h : SliceIs Rep.msg.slice false w 0 w.heap.size v xs) (h' : SliceIs Rep.msg.slice false w 0 w.heap.size u ys) (hne : xs.length ≠ ys.length) :
    Calls Try.prog 61 #[v, u, .func (.func 62) #[] #[]] w fun x w' => x = .returned (.bool false) ∧ Quiet w w' := by
  obtain ⟨A, c, rfl, l1, m1, _⟩ := h
  obtain ⟨A', c', rfl, l2, m2, _⟩ := h'
  have e : (((xs.length : Nat) : Int) != ((ys.length : Nat) : Int)) = true := by rw [bne_iff_ne]; omega
  clear hne
  unfold maxLen at m1 m2
  go_enter Try.func61, Try.ntmps61
  go_wp2_with fail
  go_ret
  exact ⟨rfl, Quiet.refl _⟩

set_option maxRecDepth 100000 in
set_option maxHeartbeats 2000000 in
theorem eqfMsgs_like (v u : Value) (xs ys : List (List (Int × Int))) (w : World) (h : SliceIs Rep.msg.slice false w 0 w.heap.size v xs) (h' : SliceIs Rep.msg.slice false w 0 w.heap.size u ys) (hne : xs.length = ys.length) :
    Calls Try.prog 61 #[v, u, .func (.func 62) #[] #[]] w fun x w' => x = .returned (.bool (decide (xs = ys))) ∧ Quiet w w' := by
  obtain ⟨A, c, rfl, l1, m1, h1⟩ := h
  obtain ⟨A', c', rfl, l2, m2, h2⟩ := h'
  rw [← hne] at l2 ⊢
  have HN := Lib.hid hne; clear hne
  generalize hd : decide (xs = ys) = d
  have HD := Lib.hid hd; clear hd
  unfold maxLen at m1 m2
  go_enter Try.func61, Try.ntmps61
  go_wp2_with fail
  go_loopg [7, 8, 9, 17] xs.length (fun k _ _ _ i wr => ∃ j : Nat, i = .int .i64 (j : Int) ∧ j ≤ xs.length ∧ k = xs.length - j ∧ xs.take j = ys.take j ∧ Quiet w wr)
  case atStart => exact ⟨0, rfl, by omega, by omega, rfl, Quiet.refl _⟩
  case round =>
    obtain ⟨j, rfl, hj, hk, hl, hb⟩ := hrel
    have HL := Lib.hid hl; clear hl
    have HK := Lib.hid hk; clear hk
    by_cases hlt : j < xs.length
    · obtain ⟨x, hx⟩ := Pc.get_at hlt
      obtain ⟨y, hy⟩ := Pc.get_at (l := ys) (j := j) (by have := HN.out; omega)
      obtain ⟨g, o, vx, rfl, _, _, c0, hvx⟩ := (hb.at_ h1).row hx
      obtain ⟨g', o', vy, rfl, _, _, c0', hvy⟩ := (hb.at_ h2).row hy
      have HX := Lib.hid hx; clear hx
      have HY := Lib.hid hy; clear hy
      clear h1 h2
      have hsz := hb.size
      go_wp2_with fail
      refine (eqMsgs_any vx vy x y _ (hvx.widen (Nat.le_refl _) (by omega)) (hvy.widen (Nat.le_refl _) (by omega))).mono ?_
      rintro e w1 ⟨rfl, hb1⟩
      replace hb := hb.trans hb1
      clear hb1 hsz
      cases hxy : decide (x = y)
      · have HXY := Lib.hid (of_decide_eq_false hxy); clear hxy
        go_wp2_with fail
        go_ret
        exact ⟨by rw [← HD.out, Pc.like_no HX.out HY.out HXY.out]; rfl, hb⟩
      · have HXY := Lib.hid (of_decide_eq_true hxy); clear hxy
        go_wp2_with fail
        go_roundg (xs.length - (j + 1))
        case rel => exact ⟨j + 1, by simp, by omega, rfl, Pc.like_next HL.out HX.out (by rw [HXY.out]; exact HY.out), hb⟩
        case measure => have := HK.out; omega
    · go_wp2_with fail
      go_ret
      exact ⟨by rw [← HD.out, Pc.like_end HN.out hlt HL.out]; rfl, hb⟩

theorem eqfMsgs_any (v u : Value) (xs ys : List (List (Int × Int))) (w : World) (h : SliceIs Rep.msg.slice false w 0 w.heap.size v xs) (h' : SliceIs Rep.msg.slice false w 0 w.heap.size u ys) :
    Calls Try.prog 61 #[v, u, .func (.func 62) #[] #[]] w fun x w' => x = .returned (.bool (decide (xs = ys))) ∧ Quiet w w' := by
  by_cases hne : xs.length = ys.length
  · exact eqfMsgs_like v u xs ys w h h' hne
  · rw [Pc.like_len hne]
    exact eqfMsgs_apart v u xs ys w h h' hne

theorem eqfInts_apart (v u : Value) (xs ys : List (List Int)) (w : World) (h : SliceIs Rep.int.slice false w 0 w.heap.size v xs) (h' : SliceIs Rep.int.slice false w 0 w.heap.size u ys) (hne : xs.length ≠ ys.length) :
    Calls Try.prog 63 #[v, u, .func (.func 60) #[] #[]] w fun x w' => x = .returned (.bool false) ∧ Quiet w w' := by
  obtain ⟨A, c, rfl, l1, m1, _⟩ := h
  obtain ⟨A', c', rfl, l2, m2, _⟩ := h'
  have e : (((xs.length : Nat) : Int) != ((ys.length : Nat) : Int)) = true := by rw [bne_iff_ne]; omega
  clear hne
  unfold maxLen at m1 m2
  go_enter Try.func63, Try.ntmps63
  go_wp2_with fail
  go_ret
  exact ⟨rfl, Quiet.refl _⟩

set_option maxRecDepth 100000 in
set_option maxHeartbeats 2000000 in
theorem eqfInts_like (v u : Value) (xs ys : List (List Int)) (w : World) (h : SliceIs Rep.int.slice false w 0 w.heap.size v xs) (h' : SliceIs Rep.int.slice false w 0 w.heap.size u ys) (hne : xs.length = ys.length) :
    Calls Try.prog 63 #[v, u, .func (.func 60) #[] #[]] w fun x w' => x = .returned (.bool (decide (xs = ys))) ∧ Quiet w w' := by
  obtain ⟨A, c, rfl, l1, m1, h1⟩ := h
  obtain ⟨A', c', rfl, l2, m2, h2⟩ := h'
  rw [← hne] at l2 ⊢
  have HN := Lib.hid hne; clear hne
  generalize hd : decide (xs = ys) = d
  have HD := Lib.hid hd; clear hd
  unfold maxLen at m1 m2
  go_enter Try.func63, Try.ntmps63
  go_wp2_with fail
  go_loopg [7, 8, 9, 17] xs.length (fun k _ _ _ i wr => ∃ j : Nat, i = .int .i64 (j : Int) ∧ j ≤ xs.length ∧ k = xs.length - j ∧ xs.take j = ys.take j ∧ Quiet w wr)
  case atStart => exact ⟨0, rfl, by omega, by omega, rfl, Quiet.refl _⟩
  case round =>
    obtain ⟨j, rfl, hj, hk, hl, hb⟩ := hrel
    have HL := Lib.hid hl; clear hl
    have HK := Lib.hid hk; clear hk
    by_cases hlt : j < xs.length
    · obtain ⟨x, hx⟩ := Pc.get_at hlt
      obtain ⟨y, hy⟩ := Pc.get_at (l := ys) (j := j) (by have := HN.out; omega)
      obtain ⟨g, o, vx, rfl, _, _, c0, hvx⟩ := (hb.at_ h1).row hx
      obtain ⟨g', o', vy, rfl, _, _, c0', hvy⟩ := (hb.at_ h2).row hy
      have HX := Lib.hid hx; clear hx
      have HY := Lib.hid hy; clear hy
      clear h1 h2
      have hsz := hb.size
      go_wp2_with fail
      refine (eqInts_any vx vy x y _ (hvx.widen (Nat.le_refl _) (by omega)) (hvy.widen (Nat.le_refl _) (by omega))).mono ?_
      rintro e w1 ⟨rfl, hb1⟩
      replace hb := hb.trans hb1
      clear hb1 hsz
      cases hxy : decide (x = y)
      · have HXY := Lib.hid (of_decide_eq_false hxy); clear hxy
        go_wp2_with fail
        go_ret
        exact ⟨by rw [← HD.out, Pc.like_no HX.out HY.out HXY.out]; rfl, hb⟩
      · have HXY := Lib.hid (of_decide_eq_true hxy); clear hxy
        go_wp2_with fail
        go_roundg (xs.length - (j + 1))
        case rel => exact ⟨j + 1, by simp, by omega, rfl, Pc.like_next HL.out HX.out (by rw [HXY.out]; exact HY.out), hb⟩
        case measure => have := HK.out; omega
    · go_wp2_with fail
      go_ret
      exact ⟨by rw [← HD.out, Pc.like_end HN.out hlt HL.out]; rfl, hb⟩

theorem eqfInts_any (v u : Value) (xs ys : List (List Int)) (w : World) (h : SliceIs Rep.int.slice false w 0 w.heap.size v xs) (h' : SliceIs Rep.int.slice false w 0 w.heap.size u ys) :
    Calls Try.prog 63 #[v, u, .func (.func 60) #[] #[]] w fun x w' => x = .returned (.bool (decide (xs = ys))) ∧ Quiet w w' := by
  by_cases hne : xs.length = ys.length
  · exact eqfInts_like v u xs ys w h h' hne
  · rw [Pc.like_len hne]
    exact eqfInts_apart v u xs ys w h h' hne
end Go.Proofs.Ytdfgnmdofjhnkaa

/- piece.Same, and the document's Same. -/
namespace Go.Proofs.Ytdfgnmdofjhnkaa
open Go.RowKit

namespace Pc
theorem same_no {p q : Piece} (h : ¬ (p.node = q.node ∧ p.state = q.state ∧ p.steps = q.steps ∧ p.sent = q.sent ∧ p.inn = q.inn ∧ p.out = q.out)) : decide (p = q) = false := by
  apply decide_eq_false
  rintro rfl
  exact h ⟨rfl, rfl, rfl, rfl, rfl, rfl⟩
end Pc

set_option maxRecDepth 100000 in
set_option maxHeartbeats 4000000 in
theorem same_any (v u : Value) (p q : Pc.Piece) (w : World) (h : PieceIs false w 0 w.heap.size v p) (h' : PieceIs false w 0 w.heap.size u q) : Calls Try.prog 23 #[v, u] w
    fun x w' => x = .returned (.bool (decide (p = q))) ∧ Below w.heap.size w w' := by
  obtain ⟨n, s, t, xs, ms, os⟩ := p
  obtain ⟨n', s', t', xs', ms', os'⟩ := q
  obtain ⟨a, b, c, rfl, h1, h2, h3⟩ := h
  obtain ⟨a', b', c', rfl, h1', h2', h3'⟩ := h'
  dsimp only at h1 h2 h3 h1' h2' h3' ⊢
  have hn := @Pc.same_no ⟨n, s, t, xs, ms, os⟩ ⟨n', s', t', xs', ms', os'⟩
  dsimp only at hn
  have hy : n = n' → s = s' → t = t' → xs = xs' → ms = ms' → os = os' → decide ((⟨n, s, t, xs, ms, os⟩ : Pc.Piece) = ⟨n', s', t', xs', ms', os'⟩) = true := by rintro rfl rfl rfl rfl rfl rfl; exact decide_eq_true rfl
  generalize decide ((⟨n, s, t, xs, ms, os⟩ : Pc.Piece) = ⟨n', s', t', xs', ms', os'⟩) = d at hn hy ⊢
  have HN := Lib.hid hn; clear hn
  have HY := Lib.hid hy; clear hy
  have hb0 : Below w.heap.size w ((w.alloc (.cells #[.int .i64 n, .int .i64 s, .int .i64 t, a, b, c] 26)).alloc (.cells #[.int .i64 n', .int .i64 s', .int .i64 t', a', b', c'] 26)) := below_2 _ _ _
  by_cases e1 : n = n'
  · subst e1
    have b1 : (n == n) = true := by simp
    by_cases e2 : s = s'
    · subst e2
      have b2 : (s == s) = true := by simp
      by_cases e3 : t = t'
      · subst e3
        have b3 : (t == t) = true := by simp
        have H1 := Lib.hid h1; have H2 := Lib.hid h2; have H3 := Lib.hid h3; have H1' := Lib.hid h1'; have H2' := Lib.hid h2'; have H3' := Lib.hid h3'
        clear h1 h2 h3 h1' h2' h3'
        go_enter Try.func23, Try.ntmps23
        go_wp2_with fail
        refine (eqInts_any a a' xs xs' _ ((H1.out.below hb0 (Nat.le_refl _)).widen (Nat.le_refl _) hb0.size) ((H1'.out.below hb0 (Nat.le_refl _)).widen (Nat.le_refl _) hb0.size)).mono ?_
        rintro e w1 ⟨rfl, hq⟩
        replace hb0 := hb0.trans (hq.below (B := w.heap.size))
        have bb := hq.below (B := w.heap.size + 2)
        have kb : w1.cell? ⟨w.heap.size, 4, none⟩ = some b := (bb.cell (by simp)).trans (by simp [go_sem])
        have kb' : w1.cell? ⟨w.heap.size + 1, 4, none⟩ = some b' := (bb.cell (by simp)).trans (by simp [go_sem])
        cases d1 : decide (xs = xs')
        · have D1 := Lib.hid (of_decide_eq_false d1); clear d1
          go_wp2_with fail
          go_ret
          exact ⟨by rw [HN.out (fun h => D1.out h.2.2.2.1)]; rfl, hb0⟩
        · have D1 := Lib.hid (of_decide_eq_true d1); clear d1
          go_wp2_with fail
          clear kb kb'
          refine (eqfMsgs_any b b' ms ms' _ ((H2.out.below hb0 (Nat.le_refl _)).widen (Nat.le_refl _) hb0.size) ((H2'.out.below hb0 (Nat.le_refl _)).widen (Nat.le_refl _) hb0.size)).mono ?_
          rintro e w2 ⟨rfl, hq2⟩
          replace hb0 := hb0.trans (hq2.below (B := w.heap.size))
          replace bb := bb.trans (hq2.below (B := w.heap.size + 2))
          have kb : w2.cell? ⟨w.heap.size, 5, none⟩ = some c := (bb.cell (by simp)).trans (by simp [go_sem])
          have kb' : w2.cell? ⟨w.heap.size + 1, 5, none⟩ = some c' := (bb.cell (by simp)).trans (by simp [go_sem])
          cases d2 : decide (ms = ms')
          · have D2 := Lib.hid (of_decide_eq_false d2); clear d2
            go_wp2_with fail
            go_ret
            exact ⟨by rw [HN.out (fun h => D2.out h.2.2.2.2.1)]; rfl, hb0⟩
          · have D2 := Lib.hid (of_decide_eq_true d2); clear d2
            go_wp2_with fail
            clear kb kb'
            refine (eqfInts_any c c' os os' _ ((H3.out.below hb0 (Nat.le_refl _)).widen (Nat.le_refl _) hb0.size) ((H3'.out.below hb0 (Nat.le_refl _)).widen (Nat.le_refl _) hb0.size)).mono ?_
            rintro e w3 ⟨rfl, hq3⟩
            replace hb0 := hb0.trans (hq3.below (B := w.heap.size))
            cases d3 : decide (os = os')
            · have D3 := Lib.hid (of_decide_eq_false d3); clear d3
              go_wp2_with fail
              go_ret
              exact ⟨by rw [HN.out (fun h => D3.out h.2.2.2.2.2)]; rfl, hb0⟩
            · have D3 := Lib.hid (of_decide_eq_true d3); clear d3
              go_wp2_with fail
              go_ret
              exact ⟨by rw [HY.out (by simp) (by simp) (by simp) D1.out D2.out D3.out]; rfl, hb0⟩
      · have b3 : (t == t') = false := by simpa using e3
        have E3 := Lib.hid e3; clear e3 h1 h2 h3 h1' h2' h3'
        go_enter Try.func23, Try.ntmps23
        go_wp2_with fail
        go_ret
        exact ⟨by rw [HN.out (fun h => E3.out h.2.2.1)]; rfl, hb0⟩
    · have b2 : (s == s') = false := by simpa using e2
      have E2 := Lib.hid e2; clear e2 h1 h2 h3 h1' h2' h3'
      go_enter Try.func23, Try.ntmps23
      go_wp2_with fail
      go_ret
      exact ⟨by rw [HN.out (fun h => E2.out h.2.1)]; rfl, hb0⟩
  · have b1 : (n == n') = false := by simpa using e1
    have E1 := Lib.hid e1; clear e1 h1 h2 h3 h1' h2' h3'
    go_enter Try.func23, Try.ntmps23
    go_wp2_with fail
    go_ret
    exact ⟨by rw [HN.out (fun h => E1.out h.1)]; rfl, hb0⟩

end Go.Proofs.Ytdfgnmdofjhnkaa

/- piece.Right -/
namespace Go.Proofs.Ytdfgnmdofjhnkaa
open Go.RowKit

theorem right1_any (n : Int) (w : World) : Calls Try.prog 58 #[.int .i64 n] w fun x w' => x = .returned (.bool (!Pc.within n 0 3)) ∧ w = w' := by
  go_enter Try.func58, Try.ntmps58
  go_wp2_with fail
  refine (pwithin_any _ _ _).mono ?_
  rintro e w1 ⟨rfl, rfl⟩
  go_wp2_with fail
  go_ret
  exact ⟨rfl, rfl⟩

def PrR (α : Type) (b : α → Bool) (xs : List α) (w : World) (k : Nat) (i : Value) (wr : World) : Prop :=
  ∃ j : Nat, i = .int .i64 (j : Int) ∧ j ≤ xs.length ∧ k = xs.length - j ∧ Pc.good b xs j ∧ Below w.heap.size w wr

set_option maxRecDepth 100000 in
set_option maxHeartbeats 2000000 in
theorem right_head (v : Value) (p : Pc.Piece) (w : World) (h : PieceIs false w 0 w.heap.size v p) (hh : Pc.okHead p = false) : Calls Try.prog 21 #[v] w
    fun x w' => x = .returned (.bool (Pc.right p)) ∧ Below w.heap.size w w' := by
  obtain ⟨n, s, t, xs, ms, os⟩ := p
  obtain ⟨a, b, c, rfl, ⟨A1, c1, rfl, l1, m1, h1⟩, ⟨A2, c2, rfl, l2, m2, h2⟩, ⟨A3, c3, rfl, l3, m3, h3⟩⟩ := h
  dsimp only at l1 l2 l3 h1 h2 h3 ⊢
  have e : Pc.right ⟨n, s, t, xs, ms, os⟩ = false := by unfold Pc.right; rw [hh]; rfl
  rw [e]
  unfold Pc.okHead at hh
  have hh' := of_decide_eq_false hh
  dsimp only at hh'
  clear hh e h1 h2 h3
  by_cases q1 : 0 ≤ n ∧ n ≤ 5
  · by_cases q2 : 0 ≤ s ∧ s ≤ 7
    · by_cases q3 : 0 ≤ t ∧ t ≤ 2147483647
      · have q4 : 5 < max (max (xs.length : Int) ms.length) os.length := by omega
        clear hh'
        go_enter Try.func21, Try.ntmps21
        go_wp2_with fail
        refine (pwithin_yes _ _ q1 _).mono ?_
        rintro e w1 ⟨rfl, rfl⟩
        go_wp2_with fail
        refine (pwithin_yes _ _ q2 _).mono ?_
        rintro e w1 ⟨rfl, rfl⟩
        go_wp2_with fail
        refine (pwithin_yes _ _ q3 _).mono ?_
        rintro e w1 ⟨rfl, rfl⟩
        go_wp2_with fail
        go_ret
        exact ⟨rfl, (Below.refl _ _).alloc (Nat.le_refl _) _⟩
      · clear hh'
        go_enter Try.func21, Try.ntmps21
        go_wp2_with fail
        refine (pwithin_yes _ _ q1 _).mono ?_
        rintro e w1 ⟨rfl, rfl⟩
        go_wp2_with fail
        refine (pwithin_yes _ _ q2 _).mono ?_
        rintro e w1 ⟨rfl, rfl⟩
        go_wp2_with fail
        refine (pwithin_no _ _ q3 _).mono ?_
        rintro e w1 ⟨rfl, rfl⟩
        go_wp2_with fail
        go_ret
        exact ⟨rfl, (Below.refl _ _).alloc (Nat.le_refl _) _⟩
    · clear hh'
      go_enter Try.func21, Try.ntmps21
      go_wp2_with fail
      refine (pwithin_yes _ _ q1 _).mono ?_
      rintro e w1 ⟨rfl, rfl⟩
      go_wp2_with fail
      refine (pwithin_no _ _ q2 _).mono ?_
      rintro e w1 ⟨rfl, rfl⟩
      go_wp2_with fail
      go_ret
      exact ⟨rfl, (Below.refl _ _).alloc (Nat.le_refl _) _⟩
  · clear hh'
    go_enter Try.func21, Try.ntmps21
    go_wp2_with fail
    refine (pwithin_no _ _ q1 _).mono ?_
    rintro e w1 ⟨rfl, rfl⟩
    go_wp2_with fail
    go_ret
    exact ⟨rfl, (Below.refl _ _).alloc (Nat.le_refl _) _⟩

set_option maxRecDepth 100000 in
set_option maxHeartbeats 4000000 in
theorem right_tail (v : Value) (p : Pc.Piece) (w : World) (h : PieceIs false w 0 w.heap.size v p) (hh : Pc.okHead p = true) : Calls Try.prog 21 #[v] w
    fun x w' => x = .returned (.bool (Pc.right p)) ∧ Below w.heap.size w w' := by
  obtain ⟨n, s, t, xs, ms, os⟩ := p
  obtain ⟨a, b, c, rfl, ⟨A1, c1, rfl, l1, m1, h1⟩, ⟨A2, c2, rfl, l2, m2, h2⟩, ⟨A3, c3, rfl, l3, m3, h3⟩⟩ := h
  dsimp only at l1 l2 l3 h1 h2 h3 ⊢
  have e : Pc.right ⟨n, s, t, xs, ms, os⟩ = (xs.all (fun n => Pc.within n 0 500) && (ms.all (Pc.rising 0) && os.all Pc.okOut)) := by unfold Pc.right; rw [hh]; rfl
  unfold Pc.okHead at hh
  have hh' := of_decide_eq_true hh
  dsimp only at hh'
  clear hh
  obtain ⟨q1, q2, q3, q4, q5, q6⟩ := hh'
  have q7 : ¬ 5 < max (max (xs.length : Int) ms.length) os.length := by omega
  generalize hr : Pc.right ⟨n, s, t, xs, ms, os⟩ = r at e ⊢
  have HE := Lib.hid e; clear e hr
  have hb0 : Below w.heap.size w (w.alloc (.cells #[.int .i64 n, .int .i64 s, .int .i64 t, .slice A1 xs.length c1, .slice A2 ms.length c2, .slice A3 os.length c3] 26)) := (Below.refl _ _).alloc (Nat.le_refl _) _
  unfold maxLen at m1 m2 m3
  go_enter Try.func21, Try.ntmps21
  go_wp2_with fail
  refine (pwithin_yes _ _ q1 _).mono ?_
  rintro e w1 ⟨rfl, rfl⟩
  go_wp2_with fail
  refine (pwithin_yes _ _ q2 _).mono ?_
  rintro e w1 ⟨rfl, rfl⟩
  go_wp2_with fail
  refine (pwithin_yes _ _ q3 _).mono ?_
  rintro e w1 ⟨rfl, rfl⟩
  go_wp2_with fail
  generalize hW : w.alloc (.cells #[.int .i64 n, .int .i64 s, .int .i64 t, .slice A1 xs.length c1, .slice A2 ms.length c2, .slice A3 os.length c3] 26) = W at hb0
  have hsz : W.heap.size = w.heap.size + 1 := by rw [← hW]; simp
  have k4 : W.cell? ⟨w.heap.size, 4, none⟩ = some (.slice A2 ms.length c2) := by rw [← hW]; simp [go_sem]
  have k5 : W.cell? ⟨w.heap.size, 5, none⟩ = some (.slice A3 os.length c3) := by rw [← hW]; simp [go_sem]
  clear hW
  replace h1 := h1.below hb0 (Nat.le_refl _)
  replace h2 := h2.below hb0 (Nat.le_refl _)
  replace h3 := h3.below hb0 (Nat.le_refl _)
  have HSZ := Lib.hid hsz; clear hsz
  have HK4 := Lib.hid k4; clear k4
  have HK5 := Lib.hid k5; clear k5
  go_loopg [4, 42] xs.length (fun k _ i wr => PrR Int (fun n => Pc.within n 0 500) xs W k i wr)
  case atStart => exact ⟨0, rfl, by omega, by omega, Pc.good_zero _ _, Below.refl _ _⟩
  case round =>
    obtain ⟨j, rfl, hj, hk, hr, hb⟩ := hrel
    have HR := Lib.hid hr; clear hr
    have HK := Lib.hid hk; clear hk
    by_cases hlt : j < xs.length
    · obtain ⟨x, hx⟩ := Pc.get_at hlt
      obtain ⟨g, o, rfl, _, hg, c0⟩ := (h1.below hb (by have := HSZ.out; omega)).int hx
      have HX := Lib.hid hx; clear hx
      clear h1 h2 h3
      by_cases q : 0 ≤ x ∧ x ≤ 500
      · go_wp2_with fail
        refine (pwithin_yes _ _ q _).mono ?_
        rintro e w1 ⟨rfl, rfl⟩
        go_wp2_with fail
        go_roundg (xs.length - (j + 1))
        case rel => exact ⟨j + 1, by simp, by omega, rfl, Pc.good_next HR.out HX.out (Pc.within_yes q), hb⟩
        case measure => have := HK.out; omega
      · go_wp2_with fail
        refine (pwithin_no _ _ q _).mono ?_
        rintro e w1 ⟨rfl, rfl⟩
        go_wp2_with fail
        go_ret
        exact ⟨by rw [HE.out, Pc.bad_all (b := fun n => Pc.within n 0 500) HX.out (Pc.within_no q)]; rfl, hb0.trans (hb.mono (by have := HSZ.out; omega))⟩
    · have hj2 : j = xs.length := by omega
      subst hj2
      have e1 := Pc.good_all HR.out
      rw [e1, Bool.true_and] at HE
      clear HR e1 HK hlt hj h1
      have k4 := (hb.cell (p := ⟨w.heap.size, 4, none⟩) (by have := HSZ.out; simp; omega)).trans HK4.out
      go_wp2_with fail
      clear k4
      go_loopg [6, 53] ms.length (fun k _ i wr => PrR (List (Int × Int)) (Pc.rising 0) ms W k i wr)
      case atStart => exact ⟨0, rfl, by omega, by omega, Pc.good_zero _ _, hb⟩
      case round =>
        clear hb
        obtain ⟨j, rfl, hj, hk, hr, hb⟩ := hrel
        have HR := Lib.hid hr; clear hr
        have HK := Lib.hid hk; clear hk
        by_cases hlt : j < ms.length
        · obtain ⟨x, hx⟩ := Pc.get_at hlt
          obtain ⟨g, o, v, rfl, _, hg, c0, hv⟩ := (h2.below hb (by have := HSZ.out; omega)).row hx
          have HX := Lib.hid hx; clear hx
          clear h2 h3
          go_wp2_with fail
          refine (rising_any v x _ (hv.widen (Nat.le_refl _) (by have := hb.size; have := HSZ.out; omega))).mono ?_
          rintro e w1 ⟨rfl, hb1⟩
          replace hb := hb.trans (hb1.mono hb.size)
          cases hq : Pc.rising 0 x
          · have HQ := Lib.hid hq; clear hq
            go_wp2_with fail
            go_ret
            exact ⟨by rw [HE.out, Pc.bad_all HX.out HQ.out]; rfl, hb0.trans (hb.mono (by have := HSZ.out; omega))⟩
          · have HQ := Lib.hid hq; clear hq
            go_wp2_with fail
            go_roundg (ms.length - (j + 1))
            case rel => exact ⟨j + 1, by simp, by omega, rfl, Pc.good_next HR.out HX.out HQ.out, hb⟩
            case measure => have := HK.out; omega
        · have hj2 : j = ms.length := by omega
          subst hj2
          have e1 := Pc.good_all HR.out
          rw [e1, Bool.true_and] at HE
          clear HR e1 HK hlt hj h2
          have k5 := (hb.cell (p := ⟨w.heap.size, 5, none⟩) (by have := HSZ.out; simp; omega)).trans HK5.out
          go_wp2_with fail
          clear k5
          go_loopg [9, 64] os.length (fun k _ i wr => PrR (List Int) Pc.okOut os W k i wr)
          case atStart => exact ⟨0, rfl, by omega, by omega, Pc.good_zero _ _, hb⟩
          case round =>
            clear hb
            obtain ⟨j, rfl, hj, hk, hr, hb⟩ := hrel
            have HR := Lib.hid hr; clear hr
            have HK := Lib.hid hk; clear hk
            by_cases hlt : j < os.length
            · obtain ⟨x, hx⟩ := Pc.get_at hlt
              obtain ⟨g, o, v, rfl, _, hg, c0, hv⟩ := (h3.below hb (by have := HSZ.out; omega)).row hx
              have HX := Lib.hid hx; clear hx
              clear h3
              have hv' := hv.widen (Nat.le_refl 0) (show w.heap.size ≤ wr.heap.size by have := hb.size; have := HSZ.out; omega)
              obtain ⟨Ax, cx, rfl, lx, mx, _⟩ := hv
              have HV := Lib.hid hv'; clear hv'
              unfold maxLen at mx
              by_cases q : x.length ≤ 500
              · go_wp2_with fail
                refine (containsInts_any 58 (fun _ _ => rfl) (fun n => !Pc.within n 0 3) right1_any _ x _ HV.out).mono ?_
                rintro e w1 ⟨rfl, hb1⟩
                replace hb := hb.trans (hb1.mono hb.size)
                rw [Pc.all_not]
                cases hq : x.all (fun n => Pc.within n 0 3)
                · have HQ := Lib.hid hq; clear hq
                  go_wp2_with fail
                  go_ret
                  exact ⟨by rw [HE.out, Pc.bad_all HX.out (by unfold Pc.okOut; rw [HQ.out, Bool.and_false])]; rfl, hb0.trans (hb.mono (by have := HSZ.out; omega))⟩
                · have HQ := Lib.hid hq; clear hq
                  go_wp2_with fail
                  go_roundg (os.length - (j + 1))
                  case rel => exact ⟨j + 1, by simp, by omega, rfl, Pc.good_next HR.out HX.out (by unfold Pc.okOut; rw [HQ.out, Bool.and_true]; exact decide_eq_true q), hb⟩
                  case measure => have := HK.out; omega
              · go_wp2_with fail
                go_ret
                exact ⟨by rw [HE.out, Pc.bad_all HX.out (by unfold Pc.okOut; rw [decide_eq_false q, Bool.false_and])]; rfl, hb0.trans (hb.mono (by have := HSZ.out; omega))⟩
            · have hj2 : j = os.length := by omega
              subst hj2
              have e1 := Pc.good_all HR.out
              rw [e1] at HE
              clear HR e1 HK hlt hj h3
              go_wp2_with fail
              go_ret
              exact ⟨by rw [HE.out]; rfl, hb0.trans (hb.mono (by have := HSZ.out; omega))⟩

theorem right_any (v : Value) (p : Pc.Piece) (w : World) (h : PieceIs false w 0 w.heap.size v p) : Calls Try.prog 21 #[v] w
    fun x w' => x = .returned (.bool (Pc.right p)) ∧ Below w.heap.size w w' := by
  cases hh : Pc.okHead p
  · exact right_head v p w h hh
  · exact right_tail v p w h hh
end Go.Proofs.Ytdfgnmdofjhnkaa
