/- Lemmas, walks and contracts that the statements of this seat are proved by. -/
import Derived.Test.YtkkbblpofhenpaaS1
import Derived.RegionTactic
import Derived.OwnWalk
import Derived.Deep.RegionHeld3
/- A piece in memory. -/
namespace Go.Proofs.Ytkkbblpofhenpaa
open Go.RowKit

@[go_sem high] theorem run_max_ints3 {P : Program} (w : World) (ts : Array TypeId) (t : TypeId) (k k' k'' : IntKind) (x y z : Int) :
    (Builtin.max_ ts t #[.int k x, .int k' y, .int k'' z]).run P w = .ok (.int k (max (max x y) z)) w := by
  have e : ∀ x y : Int, (if y > x then y else x) = max x y := by
    intro x y
    rw [Int.max_def]
    split <;> split <;> omega
  simp [Builtin.max_, Builtin.max2, e]

/-- A piece: six cells. -/
def Rep.piece : Rep Pc.Piece where
  size := 6
  pos := by omega
  is fr w S cs p := ∃ a b c, cs = [.int .i64 p.node, .int .i64 p.state, .int .i64 p.steps, a, b, c] ∧ SliceOn Rep.int fr w S a p.sent ∧ SliceOn Rep.msg.slice fr w S b p.inn ∧ SliceOn Rep.int.slice fr w S c p.out
  len h := by obtain ⟨a, b, c, rfl, _⟩ := h; rfl
  keep h hk := by obtain ⟨a, b, c, rfl, h1, h2, h3⟩ := h; exact ⟨a, b, c, rfl, h1.keep hk, h2.keep hk, h3.keep hk⟩
  widen h k1 := by obtain ⟨a, b, c, rfl, h1, h2, h3⟩ := h; exact ⟨a, b, c, rfl, h1.widen k1, h2.widen k1, h3.widen k1⟩
  soft h := by obtain ⟨a, b, c, rfl, h1, h2, h3⟩ := h; exact ⟨a, b, c, rfl, h1.soft, h2.soft, h3.soft⟩
  one h := by
    obtain ⟨a, b, c, rfl, ⟨_, _, rfl, _⟩, ⟨_, _, rfl, _⟩, ⟨_, _, rfl, _⟩⟩ := h
    intro u hu
    simp at hu
    rcases hu with rfl | rfl | rfl | rfl | rfl | rfl <;> rfl

/-- A piece by value. -/
def PieceIs (fr : Bool) (w : World) (lo hi : Nat) (v : Value) (p : Pc.Piece) : Prop :=
  ∃ a b c, v = .agg #[.int .i64 p.node, .int .i64 p.state, .int .i64 p.steps, a, b, c] ∧ SliceIs Rep.int fr w lo hi a p.sent ∧ SliceIs Rep.msg.slice fr w lo hi b p.inn ∧ SliceIs Rep.int.slice fr w lo hi c p.out

section
variable {fr : Bool} {w w' : World} {lo hi lo' hi' : Nat} {v : Value} {p : Pc.Piece}
theorem PieceIs.keep (h : PieceIs fr w lo hi v p) (hk : ∀ b, lo ≤ b → b < hi → w'.heap[b]? = w.heap[b]?) : PieceIs fr w' lo hi v p := by
  obtain ⟨a, b, c, rfl, h1, h2, h3⟩ := h; exact ⟨a, b, c, rfl, h1.keep hk, h2.keep hk, h3.keep hk⟩
theorem PieceIs.below {B : Nat} (h : PieceIs fr w lo hi v p) (hb : Below B w w') (hB : hi ≤ B) : PieceIs fr w' lo hi v p := h.keep fun b _ h2 => hb.block b (by omega)
theorem PieceIs.widen (h : PieceIs fr w lo hi v p) (k1 : lo' ≤ lo) (k2 : hi ≤ hi') : PieceIs fr w lo' hi' v p := by
  obtain ⟨a, b, c, rfl, h1, h2, h3⟩ := h; exact ⟨a, b, c, rfl, h1.widen k1 k2, h2.widen k1 k2, h3.widen k1 k2⟩
theorem PieceIs.soft (h : PieceIs fr w lo hi v p) : PieceIs false w lo hi v p := by
  obtain ⟨a, b, c, rfl, h1, h2, h3⟩ := h; exact ⟨a, b, c, rfl, h1.soft, h2.soft, h3.soft⟩
theorem PieceIs.cells (h : PieceIs fr w lo hi v p) : ∃ cs : List Value, v = .agg cs.toArray ∧ Rep.piece.is fr w (rng lo hi) cs p := by
  obtain ⟨a, b, c, rfl, h1⟩ := h; exact ⟨_, rfl, a, b, c, rfl, h1⟩
end
end Go.Proofs.Ytkkbblpofhenpaa

/- Equality of lists: slices.Equal, slices.EqualFunc, the document's Ints and Msgs. -/
namespace Go.Proofs.Ytkkbblpofhenpaa
open Go.RowKit

namespace Pc
theorem like_next {α : Type} {xs ys : List α} {j : Nat} {x : α} (h : xs.take j = ys.take j) (hx : xs[j]? = some x) (hy : ys[j]? = some x) : xs.take (j + 1) = ys.take (j + 1) := by
  rw [List.take_add_one, List.take_add_one, h, hx, hy]
theorem like_no {α : Type} [DecidableEq α] {xs ys : List α} {j : Nat} {x y : α} (hx : xs[j]? = some x) (hy : ys[j]? = some y) (h : x ≠ y) : decide (xs = ys) = false := by
  apply decide_eq_false
  rintro rfl
  rw [hx] at hy; injection hy with hy; exact h hy
theorem like_end {α : Type} [DecidableEq α] {xs ys : List α} {j : Nat} (hn : xs.length = ys.length) (hj : ¬ j < xs.length) (h : xs.take j = ys.take j) : decide (xs = ys) = true := by
  apply decide_eq_true
  rwa [List.take_of_length_le (by omega), List.take_of_length_le (by omega)] at h
theorem like_len {α : Type} [DecidableEq α] {xs ys : List α} (hn : xs.length ≠ ys.length) : decide (xs = ys) = false := by
  apply decide_eq_false
  rintro rfl
  exact hn rfl
end Pc
def Quiet (w w' : World) : Prop := ∃ n, w' = w.drewN n
theorem Quiet.refl (w : World) : Quiet w w := ⟨0, rfl⟩
theorem Quiet.drewN {w w' : World} (h : Quiet w w') (n : Nat) : Quiet w (w'.drewN n) := by
  obtain ⟨m, rfl⟩ := h; exact ⟨m + n, by rw [World.drewN_drewN]⟩
theorem Quiet.trans {a b c : World} (h : Quiet a b) (h' : Quiet b c) : Quiet a c := by
  obtain ⟨n, rfl⟩ := h'; exact h.drewN n
theorem Quiet.below {B : Nat} {w w' : World} (h : Quiet w w') : Below B w w' := by
  obtain ⟨n, rfl⟩ := h; exact below_drewN (Below.refl _ _) n
theorem Quiet.heap {w w' : World} (h : Quiet w w') : w'.heap = w.heap := by
  obtain ⟨n, rfl⟩ := h; rfl
theorem Quiet.size {w w' : World} (h : Quiet w w') : w'.heap.size = w.heap.size := by rw [h.heap]
theorem Quiet.slice {α : Type} {r : Rep α} {fr : Bool} {lo hi : Nat} {w w' : World} {v : Value} {xs : List α} (h : Quiet w w') (hs : SliceIs r fr w lo hi v xs) : SliceIs r fr w' lo hi v xs := hs.keep fun _ _ _ => by rw [h.heap]
theorem Quiet.at_ {α : Type} {r : Rep α} {fr : Bool} {lo hi : Nat} {w w' : World} {A : Option Addr} {xs : List α} (h : Quiet w w') (hs : SliceAt r fr w lo hi A xs) : SliceAt r fr w' lo hi A xs := hs.keep fun _ _ _ => by rw [h.heap]


theorem msgs_apart (v u : Value) (xs ys : List (Int × Int)) (w : World) (h : SliceIs Rep.msg false w 0 w.heap.size v xs) (h' : SliceIs Rep.msg false w 0 w.heap.size u ys) (hne : xs.length ≠ ys.length) :
    Calls Try.prog 31 #[v, u] w fun x w' => x = .returned (.bool false) ∧ Quiet w w' := by
  obtain ⟨A, c, rfl, l1, m1, _⟩ := h
  obtain ⟨A', c', rfl, l2, m2, _⟩ := h'
  have e : (((xs.length : Nat) : Int) != ((ys.length : Nat) : Int)) = true := by rw [bne_iff_ne]; omega
  clear hne
  unfold maxLen at m1 m2
  go_enter Try.func31, Try.ntmps31
  go_wp2_with fail
  go_ret
  exact ⟨rfl, Quiet.refl _⟩

set_option maxRecDepth 100000 in
set_option maxHeartbeats 2000000 in
theorem msgs_like (v u : Value) (xs ys : List (Int × Int)) (w : World) (h : SliceIs Rep.msg false w 0 w.heap.size v xs) (h' : SliceIs Rep.msg false w 0 w.heap.size u ys) (hne : xs.length = ys.length) :
    Calls Try.prog 31 #[v, u] w fun x w' => x = .returned (.bool (decide (xs = ys))) ∧ Quiet w w' := by
  obtain ⟨A, c, rfl, l1, m1, h1⟩ := h
  obtain ⟨A', c', rfl, l2, m2, h2⟩ := h'
  rw [← hne] at l2 ⊢
  have HN := Lib.hid hne; clear hne
  generalize hd : decide (xs = ys) = d
  have HD := Lib.hid hd; clear hd
  unfold maxLen at m1 m2
  go_enter Try.func31, Try.ntmps31
  go_wp2_with fail
  go_loopg [5] xs.length (fun k i wr => ∃ j : Nat, i = .int .i64 (j : Int) ∧ j ≤ xs.length ∧ k = xs.length - j ∧ xs.take j = ys.take j ∧ Quiet w wr)
  case atStart => exact ⟨0, rfl, by omega, by omega, rfl, Quiet.refl _⟩
  case round =>
    obtain ⟨j, rfl, hj, hk, hl, hb⟩ := hrel
    have HL := Lib.hid hl; clear hl
    have HK := Lib.hid hk; clear hk
    by_cases hlt : j < xs.length
    · obtain ⟨x, hx⟩ := Pc.get_at hlt
      obtain ⟨y, hy⟩ := Pc.get_at (l := ys) (j := j) (by have := HN.out; omega)
      obtain ⟨x, x'⟩ := x
      obtain ⟨y, y'⟩ := y
      obtain ⟨g, o, rfl, _, _, c0, c1⟩ := (hb.at_ h1).msg hx
      obtain ⟨g', o', rfl, _, _, c0', c1'⟩ := (hb.at_ h2).msg hy
      dsimp only at c0 c1 c0' c1'
      have HX := Lib.hid hx; clear hx
      have HY := Lib.hid hy; clear hy
      clear h1 h2
      by_cases hxy : x = y
      · subst hxy
        by_cases hxy' : x' = y'
        · subst hxy'
          have hbn : (x == x) = true := by simp
          have hbn' : (x' == x') = true := by simp
          go_wp2_with fail
          go_quiet (fail)
          go_wp2_with fail
          go_roundg (xs.length - (j + 1))
          case rel => exact ⟨j + 1, by simp, by omega, rfl, Pc.like_next HL.out HX.out HY.out, hb.drewN _⟩
          case measure => have := HK.out; omega
        · have HXY := Lib.hid hxy'
          have hbn : (x == x) = true := by simp
          have hbn' : (x' == y') = false := by simpa using hxy'
          clear hxy'
          go_wp2_with fail
          go_quiet (fail)
          go_wp2_with fail
          go_ret
          exact ⟨by rw [← HD.out, Pc.like_no HX.out HY.out (fun e => HXY.out (by injection e))]; rfl, hb.drewN _⟩
      · have HXY := Lib.hid hxy
        have hbn : (x == y) = false := by simpa using hxy
        clear hxy
        go_wp2_with fail
        go_quiet (fail)
        go_wp2_with fail
        go_ret
        exact ⟨by rw [← HD.out, Pc.like_no HX.out HY.out (fun e => HXY.out (by injection e))]; rfl, hb.drewN _⟩
    · go_wp2_with fail
      go_ret
      exact ⟨by rw [← HD.out, Pc.like_end HN.out hlt HL.out]; rfl, hb⟩

theorem msgs_any (v u : Value) (xs ys : List (Int × Int)) (w : World) (h : SliceIs Rep.msg false w 0 w.heap.size v xs) (h' : SliceIs Rep.msg false w 0 w.heap.size u ys) :
    Calls Try.prog 31 #[v, u] w fun x w' => x = .returned (.bool (decide (xs = ys))) ∧ Quiet w w' := by
  by_cases hne : xs.length = ys.length
  · exact msgs_like v u xs ys w h h' hne
  · rw [Pc.like_len hne]
    exact msgs_apart v u xs ys w h h' hne

theorem rints_apart (v u : Value) (xs ys : List Int) (w : World) (h : SliceIs Rep.int false w 0 w.heap.size v xs) (h' : SliceIs Rep.int false w 0 w.heap.size u ys) (hne : xs.length ≠ ys.length) :
    Calls Try.prog 65 #[v, u] w fun x w' => x = .returned (.bool false) ∧ Quiet w w' := by
  obtain ⟨A, c, rfl, l1, m1, _⟩ := h
  obtain ⟨A', c', rfl, l2, m2, _⟩ := h'
  have e : (((xs.length : Nat) : Int) != ((ys.length : Nat) : Int)) = true := by rw [bne_iff_ne]; omega
  clear hne
  unfold maxLen at m1 m2
  go_enter Try.func65, Try.ntmps65
  go_wp2_with fail
  go_ret
  exact ⟨rfl, Quiet.refl _⟩

set_option maxRecDepth 100000 in
set_option maxHeartbeats 2000000 in
theorem rints_like (v u : Value) (xs ys : List Int) (w : World) (h : SliceIs Rep.int false w 0 w.heap.size v xs) (h' : SliceIs Rep.int false w 0 w.heap.size u ys) (hne : xs.length = ys.length) :
    Calls Try.prog 65 #[v, u] w fun x w' => x = .returned (.bool (decide (xs = ys))) ∧ Quiet w w' := by
  obtain ⟨A, c, rfl, l1, m1, h1⟩ := h
  obtain ⟨A', c', rfl, l2, m2, h2⟩ := h'
  rw [← hne] at l2 ⊢
  have HN := Lib.hid hne; clear hne
  generalize hd : decide (xs = ys) = d
  have HD := Lib.hid hd; clear hd
  unfold maxLen at m1 m2
  go_enter Try.func65, Try.ntmps65
  go_wp2_with fail
  go_loopg [5] xs.length (fun k i wr => ∃ j : Nat, i = .int .i64 (j : Int) ∧ j ≤ xs.length ∧ k = xs.length - j ∧ xs.take j = ys.take j ∧ Quiet w wr)
  case atStart => exact ⟨0, rfl, by omega, by omega, rfl, Quiet.refl _⟩
  case round =>
    obtain ⟨j, rfl, hj, hk, hl, hb⟩ := hrel
    have HL := Lib.hid hl; clear hl
    have HK := Lib.hid hk; clear hk
    by_cases hlt : j < xs.length
    · obtain ⟨x, hx⟩ := Pc.get_at hlt
      obtain ⟨y, hy⟩ := Pc.get_at (l := ys) (j := j) (by have := HN.out; omega)
      obtain ⟨g, o, rfl, _, _, c0⟩ := (hb.at_ h1).int hx
      obtain ⟨g', o', rfl, _, _, c0'⟩ := (hb.at_ h2).int hy
      have HX := Lib.hid hx; clear hx
      have HY := Lib.hid hy; clear hy
      clear h1 h2
      by_cases hxy : x = y
      · subst hxy
        have hbn : (x != x) = false := by simp
        go_wp2_with fail
        go_quiet (fail)
        go_wp2_with fail
        go_roundg (xs.length - (j + 1))
        case rel => exact ⟨j + 1, by simp, by omega, rfl, Pc.like_next HL.out HX.out HY.out, hb.drewN _⟩
        case measure => have := HK.out; omega
      · have HXY := Lib.hid hxy
        have hbn : (x != y) = true := by simpa using hxy
        clear hxy
        go_wp2_with fail
        go_quiet (fail)
        go_wp2_with fail
        go_ret
        exact ⟨by rw [← HD.out, Pc.like_no HX.out HY.out HXY.out]; rfl, hb.drewN _⟩
    · go_wp2_with fail
      go_ret
      exact ⟨by rw [← HD.out, Pc.like_end HN.out hlt HL.out]; rfl, hb⟩

theorem rints_any (v u : Value) (xs ys : List Int) (w : World) (h : SliceIs Rep.int false w 0 w.heap.size v xs) (h' : SliceIs Rep.int false w 0 w.heap.size u ys) :
    Calls Try.prog 65 #[v, u] w fun x w' => x = .returned (.bool (decide (xs = ys))) ∧ Quiet w w' := by
  by_cases hne : xs.length = ys.length
  · exact rints_like v u xs ys w h h' hne
  · rw [Pc.like_len hne]
    exact rints_apart v u xs ys w h h' hne
end Go.Proofs.Ytkkbblpofhenpaa

/- Equality of lists, for piece.Same: slices.Equal, slices.EqualFunc. -/
namespace Go.Proofs.Ytkkbblpofhenpaa
open Go.RowKit


theorem eqInts_apart (v u : Value) (xs ys : List Int) (w : World) (h : SliceIs Rep.int false w 0 w.heap.size v xs) (h' : SliceIs Rep.int false w 0 w.heap.size u ys) (hne : xs.length ≠ ys.length) :
    Calls Try.prog 88 #[v, u] w fun x w' => x = .returned (.bool false) ∧ Quiet w w' := by
  obtain ⟨A, c, rfl, l1, m1, _⟩ := h
  obtain ⟨A', c', rfl, l2, m2, _⟩ := h'
  have e : (((xs.length : Nat) : Int) != ((ys.length : Nat) : Int)) = true := by rw [bne_iff_ne]; omega
  clear hne
  unfold maxLen at m1 m2
  go_enter Try.func88, Try.ntmps88
  go_wp2_with fail
  go_ret
  exact ⟨rfl, Quiet.refl _⟩

set_option maxRecDepth 100000 in
set_option maxHeartbeats 2000000 in
theorem eqInts_like (v u : Value) (xs ys : List Int) (w : World) (h : SliceIs Rep.int false w 0 w.heap.size v xs) (h' : SliceIs Rep.int false w 0 w.heap.size u ys) (hne : xs.length = ys.length) :
    Calls Try.prog 88 #[v, u] w fun x w' => x = .returned (.bool (decide (xs = ys))) ∧ Quiet w w' := by
  obtain ⟨A, c, rfl, l1, m1, h1⟩ := h
  obtain ⟨A', c', rfl, l2, m2, h2⟩ := h'
  rw [← hne] at l2 ⊢
  have HN := Lib.hid hne; clear hne
  generalize hd : decide (xs = ys) = d
  have HD := Lib.hid hd; clear hd
  unfold maxLen at m1 m2
  go_enter Try.func88, Try.ntmps88
  go_wp2_with fail
  go_loopg [5, 13] xs.length (fun k _ i wr => ∃ j : Nat, i = .int .i64 (j : Int) ∧ j ≤ xs.length ∧ k = xs.length - j ∧ xs.take j = ys.take j ∧ Quiet w wr)
  case atStart => exact ⟨0, rfl, by omega, by omega, rfl, Quiet.refl _⟩
  case round =>
    obtain ⟨j, rfl, hj, hk, hl, hb⟩ := hrel
    have HL := Lib.hid hl; clear hl
    have HK := Lib.hid hk; clear hk
    by_cases hlt : j < xs.length
    · obtain ⟨x, hx⟩ := Pc.get_at hlt
      obtain ⟨y, hy⟩ := Pc.get_at (l := ys) (j := j) (by have := HN.out; omega)
      obtain ⟨g, o, rfl, _, _, c0⟩ := (hb.at_ h1).int hx
      obtain ⟨g', o', rfl, _, _, c0'⟩ := (hb.at_ h2).int hy
      have HX := Lib.hid hx; clear hx
      have HY := Lib.hid hy; clear hy
      clear h1 h2
      by_cases hxy : x = y
      · subst hxy
        have hbn : (x != x) = false := by simp
        go_wp2_with fail
        go_quiet (fail)
        go_wp2_with fail
        go_roundg (xs.length - (j + 1))
        case rel => exact ⟨j + 1, by simp, by omega, rfl, Pc.like_next HL.out HX.out HY.out, hb.drewN _⟩
        case measure => have := HK.out; omega
      · have HXY := Lib.hid hxy
        have hbn : (x != y) = true := by simpa using hxy
        clear hxy
        go_wp2_with fail
        go_quiet (fail)
        go_wp2_with fail
        go_ret
        exact ⟨by rw [← HD.out, Pc.like_no HX.out HY.out HXY.out]; rfl, hb.drewN _⟩
    · go_wp2_with fail
      go_ret
      exact ⟨by rw [← HD.out, Pc.like_end HN.out hlt HL.out]; rfl, hb⟩

theorem eqInts_any (v u : Value) (xs ys : List Int) (w : World) (h : SliceIs Rep.int false w 0 w.heap.size v xs) (h' : SliceIs Rep.int false w 0 w.heap.size u ys) :
    Calls Try.prog 88 #[v, u] w fun x w' => x = .returned (.bool (decide (xs = ys))) ∧ Quiet w w' := by
  by_cases hne : xs.length = ys.length
  · exact eqInts_like v u xs ys w h h' hne
  · rw [Pc.like_len hne]
    exact eqInts_apart v u xs ys w h h' hne

theorem eqMsgs_apart (v u : Value) (xs ys : List (Int × Int)) (w : World) (h : SliceIs Rep.msg false w 0 w.heap.size v xs) (h' : SliceIs Rep.msg false w 0 w.heap.size u ys) (hne : xs.length ≠ ys.length) :
    Calls Try.prog 90 #[v, u] w fun x w' => x = .returned (.bool false) ∧ Quiet w w' := by
  obtain ⟨A, c, rfl, l1, m1, _⟩ := h
  obtain ⟨A', c', rfl, l2, m2, _⟩ := h'
  have e : (((xs.length : Nat) : Int) != ((ys.length : Nat) : Int)) = true := by rw [bne_iff_ne]; omega
  clear hne
  unfold maxLen at m1 m2
  go_enter Try.func90, Try.ntmps90
  go_wp2_with fail
  go_ret
  exact ⟨rfl, Quiet.refl _⟩

set_option maxRecDepth 100000 in
set_option maxHeartbeats 2000000 in
theorem eqMsgs_like (v u : Value) (xs ys : List (Int × Int)) (w : World) (h : SliceIs Rep.msg false w 0 w.heap.size v xs) (h' : SliceIs Rep.msg false w 0 w.heap.size u ys) (hne : xs.length = ys.length) :
    Calls Try.prog 90 #[v, u] w fun x w' => x = .returned (.bool (decide (xs = ys))) ∧ Quiet w w' := by
  obtain ⟨A, c, rfl, l1, m1, h1⟩ := h
  obtain ⟨A', c', rfl, l2, m2, h2⟩ := h'
  rw [← hne] at l2 ⊢
  have HN := Lib.hid hne; clear hne
  generalize hd : decide (xs = ys) = d
  have HD := Lib.hid hd; clear hd
  unfold maxLen at m1 m2
  go_enter Try.func90, Try.ntmps90
  go_wp2_with fail
  go_loopg [5, 13] xs.length (fun k _ i wr => ∃ j : Nat, i = .int .i64 (j : Int) ∧ j ≤ xs.length ∧ k = xs.length - j ∧ xs.take j = ys.take j ∧ Quiet w wr)
  case atStart => exact ⟨0, rfl, by omega, by omega, rfl, Quiet.refl _⟩
  case round =>
    obtain ⟨j, rfl, hj, hk, hl, hb⟩ := hrel
    have HL := Lib.hid hl; clear hl
    have HK := Lib.hid hk; clear hk
    by_cases hlt : j < xs.length
    · obtain ⟨x, hx⟩ := Pc.get_at hlt
      obtain ⟨y, hy⟩ := Pc.get_at (l := ys) (j := j) (by have := HN.out; omega)
      obtain ⟨x, x'⟩ := x
      obtain ⟨y, y'⟩ := y
      obtain ⟨g, o, rfl, _, _, c0, c1⟩ := (hb.at_ h1).msg hx
      obtain ⟨g', o', rfl, _, _, c0', c1'⟩ := (hb.at_ h2).msg hy
      dsimp only at c0 c1 c0' c1'
      have HX := Lib.hid hx; clear hx
      have HY := Lib.hid hy; clear hy
      clear h1 h2
      by_cases hxy : x = y
      · subst hxy
        by_cases hxy' : x' = y'
        · subst hxy'
          have hbn : (x == x) = true := by simp
          have hbn' : (x' == x') = true := by simp
          go_wp2_with fail
          go_quiet (fail)
          go_wp2_with fail
          go_roundg (xs.length - (j + 1))
          case rel => exact ⟨j + 1, by simp, by omega, rfl, Pc.like_next HL.out HX.out HY.out, hb.drewN _⟩
          case measure => have := HK.out; omega
        · have HXY := Lib.hid hxy'
          have hbn : (x == x) = true := by simp
          have hbn' : (x' == y') = false := by simpa using hxy'
          clear hxy'
          go_wp2_with fail
          go_quiet (fail)
          go_wp2_with fail
          go_ret
          exact ⟨by rw [← HD.out, Pc.like_no HX.out HY.out (fun e => HXY.out (by injection e))]; rfl, hb.drewN _⟩
      · have HXY := Lib.hid hxy
        have hbn : (x == y) = false := by simpa using hxy
        clear hxy
        go_wp2_with fail
        go_quiet (fail)
        go_wp2_with fail
        go_ret
        exact ⟨by rw [← HD.out, Pc.like_no HX.out HY.out (fun e => HXY.out (by injection e))]; rfl, hb.drewN _⟩
    · go_wp2_with fail
      go_ret
      exact ⟨by rw [← HD.out, Pc.like_end HN.out hlt HL.out]; rfl, hb⟩

theorem eqMsgs_any (v u : Value) (xs ys : List (Int × Int)) (w : World) (h : SliceIs Rep.msg false w 0 w.heap.size v xs) (h' : SliceIs Rep.msg false w 0 w.heap.size u ys) :
    Calls Try.prog 90 #[v, u] w fun x w' => x = .returned (.bool (decide (xs = ys))) ∧ Quiet w w' := by
  by_cases hne : xs.length = ys.length
  · exact eqMsgs_like v u xs ys w h h' hne
  · rw [Pc.like_len hne]
    exact eqMsgs_apart v u xs ys w h h' hne

theorem eqfMsgs_apart (v u : Value) (xs ys : List (List (Int × Int))) (w : World) (h : SliceIs Rep.msg.slice false w 0 w.heap.size v xs) (h' : SliceIs Rep.msg.slice false w 0 w.heap.size u ys) (hne : xs.length ≠ ys.length) :
    Calls Try.prog 89 #[v, u, .func (.func 90) #[] #[]] w fun x w' => x = .returned (.bool false) ∧ Quiet w w' := by
  obtain ⟨A, c, rfl, l1, m1, _⟩ := h
  obtain ⟨A', c', rfl, l2, m2, _⟩ := h'
  have e : (((xs.length : Nat) : Int) != ((ys.length : Nat) : Int)) = true := by rw [bne_iff_ne]; omega
  clear hne
  unfold maxLen at m1 m2
  go_enter Try.func89, Try.ntmps89
  go_wp2_with fail
  go_ret
  exact ⟨rfl, Quiet.refl _⟩

set_option maxRecDepth 100000 in
set_option maxHeartbeats 2000000 in
theorem eqfMsgs_like (v u : Value) (xs ys : List (List (Int × Int))) (w : World) (h : SliceIs Rep.msg.slice false w 0 w.heap.size v xs) (h' : SliceIs Rep.msg.slice false w 0 w.heap.size u ys) (hne : xs.length = ys.length) :
    Calls Try.prog 89 #[v, u, .func (.func 90) #[] #[]] w fun x w' => x = .returned (.bool (decide (xs = ys))) ∧ Quiet w w' := by
  obtain ⟨A, c, rfl, l1, m1, h1⟩ := h
  obtain ⟨A', c', rfl, l2, m2, h2⟩ := h'
  rw [← hne] at l2 ⊢
  have HN := Lib.hid hne; clear hne
  generalize hd : decide (xs = ys) = d
  have HD := Lib.hid hd; clear hd
  unfold maxLen at m1 m2
  go_enter Try.func89, Try.ntmps89
  go_wp2_with fail
  go_loopg [7, 8, 9, 17] xs.length (fun k _ _ _ i wr => ∃ j : Nat, i = .int .i64 (j : Int) ∧ j ≤ xs.length ∧ k = xs.length - j ∧ xs.take j = ys.take j ∧ Quiet w wr)
  case atStart => exact ⟨0, rfl, by omega, by omega, rfl, Quiet.refl _⟩
  case round =>
    obtain ⟨j, rfl, hj, hk, hl, hb⟩ := hrel
    have HL := Lib.hid hl; clear hl
    have HK := Lib.hid hk; clear hk
    by_cases hlt : j < xs.length
    · obtain ⟨x, hx⟩ := Pc.get_at hlt
      obtain ⟨y, hy⟩ := Pc.get_at (l := ys) (j := j) (by have := HN.out; omega)
      obtain ⟨g, o, vx, rfl, _, _, c0, hvx⟩ := (hb.at_ h1).row hx
      obtain ⟨g', o', vy, rfl, _, _, c0', hvy⟩ := (hb.at_ h2).row hy
      have HX := Lib.hid hx; clear hx
      have HY := Lib.hid hy; clear hy
      clear h1 h2
      have hsz := hb.size
      go_wp2_with fail
      refine (eqMsgs_any vx vy x y _ (hvx.widen (Nat.le_refl _) (by omega)) (hvy.widen (Nat.le_refl _) (by omega))).mono ?_
      rintro e w1 ⟨rfl, hb1⟩
      replace hb := hb.trans hb1
      clear hb1 hsz
      cases hxy : decide (x = y)
      · have HXY := Lib.hid (of_decide_eq_false hxy); clear hxy
        go_wp2_with fail
        go_ret
        exact ⟨by rw [← HD.out, Pc.like_no HX.out HY.out HXY.out]; rfl, hb⟩
      · have HXY := Lib.hid (of_decide_eq_true hxy); clear hxy
        go_wp2_with fail
        go_roundg (xs.length - (j + 1))
        case rel => exact ⟨j + 1, by simp, by omega, rfl, Pc.like_next HL.out HX.out (by rw [HXY.out]; exact HY.out), hb⟩
        case measure => have := HK.out; omega
    · go_wp2_with fail
      go_ret
      exact ⟨by rw [← HD.out, Pc.like_end HN.out hlt HL.out]; rfl, hb⟩

theorem eqfMsgs_any (v u : Value) (xs ys : List (List (Int × Int))) (w : World) (h : SliceIs Rep.msg.slice false w 0 w.heap.size v xs) (h' : SliceIs Rep.msg.slice false w 0 w.heap.size u ys) :
    Calls Try.prog 89 #[v, u, .func (.func 90) #[] #[]] w fun x w' => x = .returned (.bool (decide (xs = ys))) ∧ Quiet w w' := by
  by_cases hne : xs.length = ys.length
  · exact eqfMsgs_like v u xs ys w h h' hne
  · rw [Pc.like_len hne]
    exact eqfMsgs_apart v u xs ys w h h' hne

theorem eqfInts_apart (v u : Value) (xs ys : List (List Int)) (w : World) (h : SliceIs Rep.int.slice false w 0 w.heap.size v xs) (h' : SliceIs Rep.int.slice false w 0 w.heap.size u ys) (hne : xs.length ≠ ys.length) :
    Calls Try.prog 91 #[v, u, .func (.func 88) #[] #[]] w fun x w' => x = .returned (.bool false) ∧ Quiet w w' := by
  obtain ⟨A, c, rfl, l1, m1, _⟩ := h
  obtain ⟨A', c', rfl, l2, m2, _⟩ := h'
  have e : (((xs.length : Nat) : Int) != ((ys.length : Nat) : Int)) = true := by rw [bne_iff_ne]; omega
  clear hne
  unfold maxLen at m1 m2
  go_enter Try.func91, Try.ntmps91
  go_wp2_with fail
  go_ret
  exact ⟨rfl, Quiet.refl _⟩

set_option maxRecDepth 100000 in
set_option maxHeartbeats 2000000 in
theorem eqfInts_like (v u : Value) (xs ys : List (List Int)) (w : World) (h : SliceIs Rep.int.slice false w 0 w.heap.size v xs) (h' : SliceIs Rep.int.slice false w 0 w.heap.size u ys) (hne : xs.length = ys.length) :
    Calls Try.prog 91 #[v, u, .func (.func 88) #[] #[]] w fun x w' => x = .returned (.bool (decide (xs = ys))) ∧ Quiet w w' := by
  obtain ⟨A, c, rfl, l1, m1, h1⟩ := h
  obtain ⟨A', c', rfl, l2, m2, h2⟩ := h'
  rw [← hne] at l2 ⊢
  have HN := Lib.hid hne; clear hne
  generalize hd : decide (xs = ys) = d
  have HD := Lib.hid hd; clear hd
  unfold maxLen at m1 m2
  go_enter Try.func91, Try.ntmps91
  go_wp2_with fail
  go_loopg [7, 8, 9, 17] xs.length (fun k _ _ _ i wr => ∃ j : Nat, i = .int .i64 (j : Int) ∧ j ≤ xs.length ∧ k = xs.length - j ∧ xs.take j = ys.take j ∧ Quiet w wr)
  case atStart => exact ⟨0, rfl, by omega, by omega, rfl, Quiet.refl _⟩
  case round =>
    obtain ⟨j, rfl, hj, hk, hl, hb⟩ := hrel
    have HL := Lib.hid hl; clear hl
    have HK := Lib.hid hk; clear hk
    by_cases hlt : j < xs.length
    · obtain ⟨x, hx⟩ := Pc.get_at hlt
      obtain ⟨y, hy⟩ := Pc.get_at (l := ys) (j := j) (by have := HN.out; omega)
      obtain ⟨g, o, vx, rfl, _, _, c0, hvx⟩ := (hb.at_ h1).row hx
      obtain ⟨g', o', vy, rfl, _, _, c0', hvy⟩ := (hb.at_ h2).row hy
      have HX := Lib.hid hx; clear hx
      have HY := Lib.hid hy; clear hy
      clear h1 h2
      have hsz := hb.size
      go_wp2_with fail
      refine (eqInts_any vx vy x y _ (hvx.widen (Nat.le_refl _) (by omega)) (hvy.widen (Nat.le_refl _) (by omega))).mono ?_
      rintro e w1 ⟨rfl, hb1⟩
      replace hb := hb.trans hb1
      clear hb1 hsz
      cases hxy : decide (x = y)
      · have HXY := Lib.hid (of_decide_eq_false hxy); clear hxy
        go_wp2_with fail
        go_ret
        exact ⟨by rw [← HD.out, Pc.like_no HX.out HY.out HXY.out]; rfl, hb⟩
      · have HXY := Lib.hid (of_decide_eq_true hxy); clear hxy
        go_wp2_with fail
        go_roundg (xs.length - (j + 1))
        case rel => exact ⟨j + 1, by simp, by omega, rfl, Pc.like_next HL.out HX.out (by rw [HXY.out]; exact HY.out), hb⟩
        case measure => have := HK.out; omega
    · go_wp2_with fail
      go_ret
      exact ⟨by rw [← HD.out, Pc.like_end HN.out hlt HL.out]; rfl, hb⟩

theorem eqfInts_any (v u : Value) (xs ys : List (List Int)) (w : World) (h : SliceIs Rep.int.slice false w 0 w.heap.size v xs) (h' : SliceIs Rep.int.slice false w 0 w.heap.size u ys) :
    Calls Try.prog 91 #[v, u, .func (.func 88) #[] #[]] w fun x w' => x = .returned (.bool (decide (xs = ys))) ∧ Quiet w w' := by
  by_cases hne : xs.length = ys.length
  · exact eqfInts_like v u xs ys w h h' hne
  · rw [Pc.like_len hne]
    exact eqfInts_apart v u xs ys w h h' hne
end Go.Proofs.Ytkkbblpofhenpaa

/- piece.Same, and the document's Same. -/
namespace Go.Proofs.Ytkkbblpofhenpaa
open Go.RowKit

namespace Pc
theorem same_no {p q : Piece} (h : ¬ (p.node = q.node ∧ p.state = q.state ∧ p.steps = q.steps ∧ p.sent = q.sent ∧ p.inn = q.inn ∧ p.out = q.out)) : decide (p = q) = false := by
  apply decide_eq_false
  rintro rfl
  exact h ⟨rfl, rfl, rfl, rfl, rfl, rfl⟩
end Pc

set_option maxRecDepth 100000 in
set_option maxHeartbeats 4000000 in
theorem same_any (v u : Value) (p q : Pc.Piece) (w : World) (h : PieceIs false w 0 w.heap.size v p) (h' : PieceIs false w 0 w.heap.size u q) : Calls Try.prog 46 #[v, u] w
    fun x w' => x = .returned (.bool (decide (p = q))) ∧ Below w.heap.size w w' := by
  obtain ⟨n, s, t, xs, ms, os⟩ := p
  obtain ⟨n', s', t', xs', ms', os'⟩ := q
  obtain ⟨a, b, c, rfl, h1, h2, h3⟩ := h
  obtain ⟨a', b', c', rfl, h1', h2', h3'⟩ := h'
  dsimp only at h1 h2 h3 h1' h2' h3' ⊢
  have hn := @Pc.same_no ⟨n, s, t, xs, ms, os⟩ ⟨n', s', t', xs', ms', os'⟩
  dsimp only at hn
  have hy : n = n' → s = s' → t = t' → xs = xs' → ms = ms' → os = os' → decide ((⟨n, s, t, xs, ms, os⟩ : Pc.Piece) = ⟨n', s', t', xs', ms', os'⟩) = true := by rintro rfl rfl rfl rfl rfl rfl; exact decide_eq_true rfl
  generalize decide ((⟨n, s, t, xs, ms, os⟩ : Pc.Piece) = ⟨n', s', t', xs', ms', os'⟩) = d at hn hy ⊢
  have HN := Lib.hid hn; clear hn
  have HY := Lib.hid hy; clear hy
  have hb0 : Below w.heap.size w ((w.alloc (.cells #[.int .i64 n, .int .i64 s, .int .i64 t, a, b, c] 79)).alloc (.cells #[.int .i64 n', .int .i64 s', .int .i64 t', a', b', c'] 79)) := below_2 _ _ _
  by_cases e1 : n = n'
  · subst e1
    have b1 : (n == n) = true := by simp
    by_cases e2 : s = s'
    · subst e2
      have b2 : (s == s) = true := by simp
      by_cases e3 : t = t'
      · subst e3
        have b3 : (t == t) = true := by simp
        have H1 := Lib.hid h1; have H2 := Lib.hid h2; have H3 := Lib.hid h3; have H1' := Lib.hid h1'; have H2' := Lib.hid h2'; have H3' := Lib.hid h3'
        clear h1 h2 h3 h1' h2' h3'
        go_enter Try.func46, Try.ntmps46
        go_wp2_with fail
        refine (eqInts_any a a' xs xs' _ ((H1.out.below hb0 (Nat.le_refl _)).widen (Nat.le_refl _) hb0.size) ((H1'.out.below hb0 (Nat.le_refl _)).widen (Nat.le_refl _) hb0.size)).mono ?_
        rintro e w1 ⟨rfl, hq⟩
        replace hb0 := hb0.trans (hq.below (B := w.heap.size))
        have bb := hq.below (B := w.heap.size + 2)
        have kb : w1.cell? ⟨w.heap.size, 4, none⟩ = some b := (bb.cell (by simp)).trans (by simp [go_sem])
        have kb' : w1.cell? ⟨w.heap.size + 1, 4, none⟩ = some b' := (bb.cell (by simp)).trans (by simp [go_sem])
        cases d1 : decide (xs = xs')
        · have D1 := Lib.hid (of_decide_eq_false d1); clear d1
          go_wp2_with fail
          go_ret
          exact ⟨by rw [HN.out (fun h => D1.out h.2.2.2.1)]; rfl, hb0⟩
        · have D1 := Lib.hid (of_decide_eq_true d1); clear d1
          go_wp2_with fail
          clear kb kb'
          refine (eqfMsgs_any b b' ms ms' _ ((H2.out.below hb0 (Nat.le_refl _)).widen (Nat.le_refl _) hb0.size) ((H2'.out.below hb0 (Nat.le_refl _)).widen (Nat.le_refl _) hb0.size)).mono ?_
          rintro e w2 ⟨rfl, hq2⟩
          replace hb0 := hb0.trans (hq2.below (B := w.heap.size))
          replace bb := bb.trans (hq2.below (B := w.heap.size + 2))
          have kb : w2.cell? ⟨w.heap.size, 5, none⟩ = some c := (bb.cell (by simp)).trans (by simp [go_sem])
          have kb' : w2.cell? ⟨w.heap.size + 1, 5, none⟩ = some c' := (bb.cell (by simp)).trans (by simp [go_sem])
          cases d2 : decide (ms = ms')
          · have D2 := Lib.hid (of_decide_eq_false d2); clear d2
            go_wp2_with fail
            go_ret
            exact ⟨by rw [HN.out (fun h => D2.out h.2.2.2.2.1)]; rfl, hb0⟩
          · have D2 := Lib.hid (of_decide_eq_true d2); clear d2
            go_wp2_with fail
            clear kb kb'
            refine (eqfInts_any c c' os os' _ ((H3.out.below hb0 (Nat.le_refl _)).widen (Nat.le_refl _) hb0.size) ((H3'.out.below hb0 (Nat.le_refl _)).widen (Nat.le_refl _) hb0.size)).mono ?_
            rintro e w3 ⟨rfl, hq3⟩
            replace hb0 := hb0.trans (hq3.below (B := w.heap.size))
            cases d3 : decide (os = os')
            · have D3 := Lib.hid (of_decide_eq_false d3); clear d3
              go_wp2_with fail
              go_ret
              exact ⟨by rw [HN.out (fun h => D3.out h.2.2.2.2.2)]; rfl, hb0⟩
            · have D3 := Lib.hid (of_decide_eq_true d3); clear d3
              go_wp2_with fail
              go_ret
              exact ⟨by rw [HY.out (by simp) (by simp) (by simp) D1.out D2.out D3.out]; rfl, hb0⟩
      · have b3 : (t == t') = false := by simpa using e3
        have E3 := Lib.hid e3; clear e3 h1 h2 h3 h1' h2' h3'
        go_enter Try.func46, Try.ntmps46
        go_wp2_with fail
        go_ret
        exact ⟨by rw [HN.out (fun h => E3.out h.2.2.1)]; rfl, hb0⟩
    · have b2 : (s == s') = false := by simpa using e2
      have E2 := Lib.hid e2; clear e2 h1 h2 h3 h1' h2' h3'
      go_enter Try.func46, Try.ntmps46
      go_wp2_with fail
      go_ret
      exact ⟨by rw [HN.out (fun h => E2.out h.2.1)]; rfl, hb0⟩
  · have b1 : (n == n') = false := by simpa using e1
    have E1 := Lib.hid e1; clear e1 h1 h2 h3 h1' h2' h3'
    go_enter Try.func46, Try.ntmps46
    go_wp2_with fail
    go_ret
    exact ⟨by rw [HN.out (fun h => E1.out h.1)]; rfl, hb0⟩

end Go.Proofs.Ytkkbblpofhenpaa

/- piece.Right -/
namespace Go.Proofs.Ytkkbblpofhenpaa
open Go.RowKit

theorem right1_any (n : Int) (w : World) : Calls Try.prog 86 #[.int .i64 n] w fun x w' => x = .returned (.bool (!Pc.within n 0 3)) ∧ w = w' := by
  go_enter Try.func86, Try.ntmps86
  go_wp2_with fail
  refine (pwithin_any _ _ _).mono ?_
  rintro e w1 ⟨rfl, rfl⟩
  go_wp2_with fail
  go_ret
  exact ⟨rfl, rfl⟩

def PrR (α : Type) (b : α → Bool) (xs : List α) (w : World) (k : Nat) (i : Value) (wr : World) : Prop :=
  ∃ j : Nat, i = .int .i64 (j : Int) ∧ j ≤ xs.length ∧ k = xs.length - j ∧ Pc.good b xs j ∧ Below w.heap.size w wr

set_option maxRecDepth 100000 in
set_option maxHeartbeats 2000000 in
theorem right_head (v : Value) (p : Pc.Piece) (w : World) (h : PieceIs false w 0 w.heap.size v p) (hh : Pc.okHead p = false) : Calls Try.prog 44 #[v] w
    fun x w' => x = .returned (.bool (Pc.right p)) ∧ Below w.heap.size w w' := by
  obtain ⟨n, s, t, xs, ms, os⟩ := p
  obtain ⟨a, b, c, rfl, ⟨A1, c1, rfl, l1, m1, h1⟩, ⟨A2, c2, rfl, l2, m2, h2⟩, ⟨A3, c3, rfl, l3, m3, h3⟩⟩ := h
  dsimp only at l1 l2 l3 h1 h2 h3 ⊢
  have e : Pc.right ⟨n, s, t, xs, ms, os⟩ = false := by unfold Pc.right; rw [hh]; rfl
  rw [e]
  unfold Pc.okHead at hh
  have hh' := of_decide_eq_false hh
  dsimp only at hh'
  clear hh e h1 h2 h3
  by_cases q1 : 0 ≤ n ∧ n ≤ 5
  · by_cases q2 : 0 ≤ s ∧ s ≤ 7
    · by_cases q3 : 0 ≤ t ∧ t ≤ 2147483647
      · have q4 : 5 < max (max (xs.length : Int) ms.length) os.length := by omega
        clear hh'
        go_enter Try.func44, Try.ntmps44
        go_wp2_with fail
        refine (pwithin_yes _ _ q1 _).mono ?_
        rintro e w1 ⟨rfl, rfl⟩
        go_wp2_with fail
        refine (pwithin_yes _ _ q2 _).mono ?_
        rintro e w1 ⟨rfl, rfl⟩
        go_wp2_with fail
        refine (pwithin_yes _ _ q3 _).mono ?_
        rintro e w1 ⟨rfl, rfl⟩
        go_wp2_with fail
        go_ret
        exact ⟨rfl, (Below.refl _ _).alloc (Nat.le_refl _) _⟩
      · clear hh'
        go_enter Try.func44, Try.ntmps44
        go_wp2_with fail
        refine (pwithin_yes _ _ q1 _).mono ?_
        rintro e w1 ⟨rfl, rfl⟩
        go_wp2_with fail
        refine (pwithin_yes _ _ q2 _).mono ?_
        rintro e w1 ⟨rfl, rfl⟩
        go_wp2_with fail
        refine (pwithin_no _ _ q3 _).mono ?_
        rintro e w1 ⟨rfl, rfl⟩
        go_wp2_with fail
        go_ret
        exact ⟨rfl, (Below.refl _ _).alloc (Nat.le_refl _) _⟩
    · clear hh'
      go_enter Try.func44, Try.ntmps44
      go_wp2_with fail
      refine (pwithin_yes _ _ q1 _).mono ?_
      rintro e w1 ⟨rfl, rfl⟩
      go_wp2_with fail
      refine (pwithin_no _ _ q2 _).mono ?_
      rintro e w1 ⟨rfl, rfl⟩
      go_wp2_with fail
      go_ret
      exact ⟨rfl, (Below.refl _ _).alloc (Nat.le_refl _) _⟩
  · clear hh'
    go_enter Try.func44, Try.ntmps44
    go_wp2_with fail
    refine (pwithin_no _ _ q1 _).mono ?_
    rintro e w1 ⟨rfl, rfl⟩
    go_wp2_with fail
    go_ret
    exact ⟨rfl, (Below.refl _ _).alloc (Nat.le_refl _) _⟩

set_option maxRecDepth 100000 in
set_option maxHeartbeats 4000000 in
theorem right_tail (v : Value) (p : Pc.Piece) (w : World) (h : PieceIs false w 0 w.heap.size v p) (hh : Pc.okHead p = true) : Calls Try.prog 44 #[v] w
    fun x w' => x = .returned (.bool (Pc.right p)) ∧ Below w.heap.size w w' := by
  obtain ⟨n, s, t, xs, ms, os⟩ := p
  obtain ⟨a, b, c, rfl, ⟨A1, c1, rfl, l1, m1, h1⟩, ⟨A2, c2, rfl, l2, m2, h2⟩, ⟨A3, c3, rfl, l3, m3, h3⟩⟩ := h
  dsimp only at l1 l2 l3 h1 h2 h3 ⊢
  have e : Pc.right ⟨n, s, t, xs, ms, os⟩ = (xs.all (fun n => Pc.within n 0 500) && (ms.all (Pc.rising 0) && os.all Pc.okOut)) := by unfold Pc.right; rw [hh]; rfl
  unfold Pc.okHead at hh
  have hh' := of_decide_eq_true hh
  dsimp only at hh'
  clear hh
  obtain ⟨q1, q2, q3, q4, q5, q6⟩ := hh'
  have q7 : ¬ 5 < max (max (xs.length : Int) ms.length) os.length := by omega
  generalize hr : Pc.right ⟨n, s, t, xs, ms, os⟩ = r at e ⊢
  have HE := Lib.hid e; clear e hr
  have hb0 : Below w.heap.size w (w.alloc (.cells #[.int .i64 n, .int .i64 s, .int .i64 t, .slice A1 xs.length c1, .slice A2 ms.length c2, .slice A3 os.length c3] 79)) := (Below.refl _ _).alloc (Nat.le_refl _) _
  unfold maxLen at m1 m2 m3
  go_enter Try.func44, Try.ntmps44
  go_wp2_with fail
  refine (pwithin_yes _ _ q1 _).mono ?_
  rintro e w1 ⟨rfl, rfl⟩
  go_wp2_with fail
  refine (pwithin_yes _ _ q2 _).mono ?_
  rintro e w1 ⟨rfl, rfl⟩
  go_wp2_with fail
  refine (pwithin_yes _ _ q3 _).mono ?_
  rintro e w1 ⟨rfl, rfl⟩
  go_wp2_with fail
  generalize hW : w.alloc (.cells #[.int .i64 n, .int .i64 s, .int .i64 t, .slice A1 xs.length c1, .slice A2 ms.length c2, .slice A3 os.length c3] 79) = W at hb0
  have hsz : W.heap.size = w.heap.size + 1 := by rw [← hW]; simp
  have k4 : W.cell? ⟨w.heap.size, 4, none⟩ = some (.slice A2 ms.length c2) := by rw [← hW]; simp [go_sem]
  have k5 : W.cell? ⟨w.heap.size, 5, none⟩ = some (.slice A3 os.length c3) := by rw [← hW]; simp [go_sem]
  clear hW
  replace h1 := h1.below hb0 (Nat.le_refl _)
  replace h2 := h2.below hb0 (Nat.le_refl _)
  replace h3 := h3.below hb0 (Nat.le_refl _)
  have HSZ := Lib.hid hsz; clear hsz
  have HK4 := Lib.hid k4; clear k4
  have HK5 := Lib.hid k5; clear k5
  go_loopg [4, 42] xs.length (fun k _ i wr => PrR Int (fun n => Pc.within n 0 500) xs W k i wr)
  case atStart => exact ⟨0, rfl, by omega, by omega, Pc.good_zero _ _, Below.refl _ _⟩
  case round =>
    obtain ⟨j, rfl, hj, hk, hr, hb⟩ := hrel
    have HR := Lib.hid hr; clear hr
    have HK := Lib.hid hk; clear hk
    by_cases hlt : j < xs.length
    · obtain ⟨x, hx⟩ := Pc.get_at hlt
      obtain ⟨g, o, rfl, _, hg, c0⟩ := (h1.below hb (by have := HSZ.out; omega)).int hx
      have HX := Lib.hid hx; clear hx
      clear h1 h2 h3
      by_cases q : 0 ≤ x ∧ x ≤ 500
      · go_wp2_with fail
        refine (pwithin_yes _ _ q _).mono ?_
        rintro e w1 ⟨rfl, rfl⟩
        go_wp2_with fail
        go_roundg (xs.length - (j + 1))
        case rel => exact ⟨j + 1, by simp, by omega, rfl, Pc.good_next HR.out HX.out (Pc.within_yes q), hb⟩
        case measure => have := HK.out; omega
      · go_wp2_with fail
        refine (pwithin_no _ _ q _).mono ?_
        rintro e w1 ⟨rfl, rfl⟩
        go_wp2_with fail
        go_ret
        exact ⟨by rw [HE.out, Pc.bad_all (b := fun n => Pc.within n 0 500) HX.out (Pc.within_no q)]; rfl, hb0.trans (hb.mono (by have := HSZ.out; omega))⟩
    · have hj2 : j = xs.length := by omega
      subst hj2
      have e1 := Pc.good_all HR.out
      rw [e1, Bool.true_and] at HE
      clear HR e1 HK hlt hj h1
      have k4 := (hb.cell (p := ⟨w.heap.size, 4, none⟩) (by have := HSZ.out; simp; omega)).trans HK4.out
      go_wp2_with fail
      clear k4
      go_loopg [6, 53] ms.length (fun k _ i wr => PrR (List (Int × Int)) (Pc.rising 0) ms W k i wr)
      case atStart => exact ⟨0, rfl, by omega, by omega, Pc.good_zero _ _, hb⟩
      case round =>
        clear hb
        obtain ⟨j, rfl, hj, hk, hr, hb⟩ := hrel
        have HR := Lib.hid hr; clear hr
        have HK := Lib.hid hk; clear hk
        by_cases hlt : j < ms.length
        · obtain ⟨x, hx⟩ := Pc.get_at hlt
          obtain ⟨g, o, v, rfl, _, hg, c0, hv⟩ := (h2.below hb (by have := HSZ.out; omega)).row hx
          have HX := Lib.hid hx; clear hx
          clear h2 h3
          go_wp2_with fail
          refine (rising_any v x _ (hv.widen (Nat.le_refl _) (by have := hb.size; have := HSZ.out; omega))).mono ?_
          rintro e w1 ⟨rfl, hb1⟩
          replace hb := hb.trans (hb1.mono hb.size)
          cases hq : Pc.rising 0 x
          · have HQ := Lib.hid hq; clear hq
            go_wp2_with fail
            go_ret
            exact ⟨by rw [HE.out, Pc.bad_all HX.out HQ.out]; rfl, hb0.trans (hb.mono (by have := HSZ.out; omega))⟩
          · have HQ := Lib.hid hq; clear hq
            go_wp2_with fail
            go_roundg (ms.length - (j + 1))
            case rel => exact ⟨j + 1, by simp, by omega, rfl, Pc.good_next HR.out HX.out HQ.out, hb⟩
            case measure => have := HK.out; omega
        · have hj2 : j = ms.length := by omega
          subst hj2
          have e1 := Pc.good_all HR.out
          rw [e1, Bool.true_and] at HE
          clear HR e1 HK hlt hj h2
          have k5 := (hb.cell (p := ⟨w.heap.size, 5, none⟩) (by have := HSZ.out; simp; omega)).trans HK5.out
          go_wp2_with fail
          clear k5
          go_loopg [9, 64] os.length (fun k _ i wr => PrR (List Int) Pc.okOut os W k i wr)
          case atStart => exact ⟨0, rfl, by omega, by omega, Pc.good_zero _ _, hb⟩
          case round =>
            clear hb
            obtain ⟨j, rfl, hj, hk, hr, hb⟩ := hrel
            have HR := Lib.hid hr; clear hr
            have HK := Lib.hid hk; clear hk
            by_cases hlt : j < os.length
            · obtain ⟨x, hx⟩ := Pc.get_at hlt
              obtain ⟨g, o, v, rfl, _, hg, c0, hv⟩ := (h3.below hb (by have := HSZ.out; omega)).row hx
              have HX := Lib.hid hx; clear hx
              clear h3
              have hv' := hv.widen (Nat.le_refl 0) (show w.heap.size ≤ wr.heap.size by have := hb.size; have := HSZ.out; omega)
              obtain ⟨Ax, cx, rfl, lx, mx, _⟩ := hv
              have HV := Lib.hid hv'; clear hv'
              unfold maxLen at mx
              by_cases q : x.length ≤ 500
              · go_wp2_with fail
                refine (containsInts_any 86 (fun _ _ => rfl) (fun n => !Pc.within n 0 3) right1_any _ x _ HV.out).mono ?_
                rintro e w1 ⟨rfl, hb1⟩
                replace hb := hb.trans (hb1.mono hb.size)
                rw [Pc.all_not]
                cases hq : x.all (fun n => Pc.within n 0 3)
                · have HQ := Lib.hid hq; clear hq
                  go_wp2_with fail
                  go_ret
                  exact ⟨by rw [HE.out, Pc.bad_all HX.out (by unfold Pc.okOut; rw [HQ.out, Bool.and_false])]; rfl, hb0.trans (hb.mono (by have := HSZ.out; omega))⟩
                · have HQ := Lib.hid hq; clear hq
                  go_wp2_with fail
                  go_roundg (os.length - (j + 1))
                  case rel => exact ⟨j + 1, by simp, by omega, rfl, Pc.good_next HR.out HX.out (by unfold Pc.okOut; rw [HQ.out, Bool.and_true]; exact decide_eq_true q), hb⟩
                  case measure => have := HK.out; omega
              · go_wp2_with fail
                go_ret
                exact ⟨by rw [HE.out, Pc.bad_all HX.out (by unfold Pc.okOut; rw [decide_eq_false q, Bool.false_and])]; rfl, hb0.trans (hb.mono (by have := HSZ.out; omega))⟩
            · have hj2 : j = os.length := by omega
              subst hj2
              have e1 := Pc.good_all HR.out
              rw [e1] at HE
              clear HR e1 HK hlt hj h3
              go_wp2_with fail
              go_ret
              exact ⟨by rw [HE.out]; rfl, hb0.trans (hb.mono (by have := HSZ.out; omega))⟩

theorem right_any (v : Value) (p : Pc.Piece) (w : World) (h : PieceIs false w 0 w.heap.size v p) : Calls Try.prog 44 #[v] w
    fun x w' => x = .returned (.bool (Pc.right p)) ∧ Below w.heap.size w w' := by
  cases hh : Pc.okHead p
  · exact right_head v p w h hh
  · exact right_tail v p w h hh
end Go.Proofs.Ytkkbblpofhenpaa

/- append: onto a row of the call's own, of a slice that reads as a list, or of elements made on the spot. Nothing of the program. -/
namespace Go.Proofs.Ytkkbblpofhenpaa
open Go.RowKit

theorem add_at (g o j : Nat) : (⟨g, o, none⟩ : Addr).add j = ⟨g, o + j, none⟩ := by
  unfold Addr.add
  split
  · subst_vars; rfl
  · rfl

theorem run_append_nothing {P : Program} (w : World) (base : Nat) (t ty e : TypeId) (i : TypeInfo) (size : Nat) (ht : P.underlying t = some (.slice e)) (hi : P.info? e = some i)
    (v : Value) (n : Nat) (xs : List Value) (hown : w.ownsRow base e size v n xs) (c : Nat) : (Builtin.append_ #[t, t] ty #[v, .slice none 0 c]).run P w = .ok v w := by
  rcases hown.2 with ⟨rfl, rfl⟩ | ⟨g, cap, cur, rfl, _, _, hnc, _⟩
  · simp [Builtin.append_, run_underlying ht, sizeOf, typeInfo, hi, Builtin.lenOf, Builtin.firstCells]
  · simp [Builtin.append_, run_underlying ht, sizeOf, typeInfo, hi, Builtin.lenOf, Builtin.firstCells, hnc, storeCells]

/-- What is appended: m elements, the cells 'news'. -/
def Src (w : World) (A : Option Addr) (m : Nat) (news : List Value) : Prop := 0 < m → ∃ g o, A = some ⟨g, o, none⟩ ∧ ∀ j u, news[j]? = some u → w.cell? ⟨g, o + j, none⟩ = some u

theorem Src.of {α : Type} {r : Rep α} {fr : Bool} {w : World} {lo hi : Nat} {A : Option Addr} {xs : List α} (h : SliceAt r fr w lo hi A xs) :
    ∃ news, news.length = xs.length * r.size ∧ r.all fr w (rng lo hi) news xs ∧ Src w A xs.length news := by
  obtain ⟨cells, h1, h2⟩ := h
  refine ⟨cells, Rep.all_len h1, h1, fun hn => ?_⟩
  obtain ⟨g, o, rfl, _, h3⟩ := h2 hn
  exact ⟨g, o, rfl, fun j u hj => (h3 j u hj).1⟩

theorem Src.block {w : World} (cs : List Value) (e : TypeId) (m : Nat) : Src (w.alloc (.cells cs.toArray e)) (some ⟨w.heap.size, 0, none⟩) m cs := by
  intro _
  refine ⟨_, _, rfl, fun j u hj => ?_⟩
  rw [Nat.zero_add]
  rw [cell_of_row (w.alloc (.cells cs.toArray e)) w.heap.size j cs.toArray e (0, 0) (heap_alloc_new w _)]
  simpa using hj

theorem run_append_src {P : Program} (w : World) (base : Nat) (t ty e : TypeId) {z : Value} {size bytes : Nat} (hinfo : (P.info? e).map (fun i => (i.zero, i.size, i.bytes)) = some (some z, size, bytes)) (ht : P.underlying t = some (.slice e))
    (hzs : z.cells.size = size) (hsz : 0 < size) (v : Value) (n : Nat) (xs : List Value) (hown : w.ownsRow base e size v n xs)
    (A : Option Addr) (m c : Nat) (news : List Value) (hl : news.length = m * size) (hr : Src w A m news) (hA : A = none → m = 0) (hin : m = 0 → A ≠ none → ∃ g o, A = some ⟨g, o, none⟩) (h1 : ∀ u ∈ news, u.oneCell' = true)
    (h63 : n + m ≤ maxLen) (hbytes : (n + m) * bytes ≤ 140737488355328) (hbase : base ≤ w.heap.size) :
    ∃ v' w', (Builtin.append_ #[t, t] ty #[v, .slice A m c]).run P w = .ok v' w' ∧ w'.ownsRow base e size v' (n + m) (xs ++ news) ∧ w.grownBy w' v.ownBlock ∧
      (v'.ownBlock = v.ownBlock ∨ v'.ownBlock = some w.heap.size) := by
  obtain ⟨i, hi, hz, hsize, hby⟩ := info_parts hinfo
  rcases A with _ | ad
  · obtain rfl := hA rfl
    have hn : news = [] := List.eq_nil_of_length_eq_zero (by simpa using hl)
    subst hn
    exact ⟨v, w, run_append_nothing w base t ty e i size ht hi v n xs hown c, by simpa using hown, World.grownBy.refl w _, .inl rfl⟩
  · have hcells : ∀ j u, news[j]? = some u → w.cell? (ad.add j) = some u := by
      intro j u hu
      rcases Nat.eq_zero_or_pos m with h0 | h0
      · subst h0
        have hn : news = [] := List.eq_nil_of_length_eq_zero (by simpa using hl)
        subst hn
        simp at hu
      · obtain ⟨g, o, h, hc⟩ := hr h0
        injection h with h
        subst h
        rw [add_at]
        exact hc j u hu
    obtain ⟨v', w', hrun, h2, h3, _, h5⟩ := run_append_own_at (P := P) w base t ty e i z size bytes ht hi hz hsize hby hzs hsz v n xs hown ad m c news hl hcells h1 h63 hbytes hbase
    exact ⟨v', w', hrun, h2, h3, h5⟩

section
variable {P : Program} {w : World} {ops : Array Oper} {rest : List Oper} {o : Oper} {a : Act} {Q : Exit → Act → World → Prop}

theorem wp_append_src {K : Act → World → Prop} (s x : Operand) (t : TypeId) (ho : o.op = .call { callee := .builtin .append, args := #[s, x], argTypes := #[t, t] })
    (base : Nat) (e : TypeId) {z : Value} {size bytes : Nat} (hinfo : (P.info? e).map (fun i => (i.zero, i.size, i.bytes)) = some (some z, size, bytes)) (ht : P.underlying t = some (.slice e))
    (hzs : z.cells.size = size) (hsz : 0 < size) (v : Value) (n : Nat) (xs : List Value) (hs : a.eval s = v) (hown : w.ownsRow base e size v n xs)
    (A : Option Addr) (m c : Nat) (news : List Value) (hx : a.eval x = .slice A m c) (hl : news.length = m * size) (hr : Src w A m news) (h1 : ∀ u ∈ news, u.oneCell' = true)
    (h63 : n + m ≤ maxLen) (hbytes : (n + m) * bytes ≤ 140737488355328) (hbase : base ≤ w.heap.size)
    (h : ∀ v' w', w'.ownsRow base e size v' (n + m) (xs ++ news) → w.grownBy w' v.ownBlock → Below base w w' → (v'.ownBlock = v.ownBlock ∨ v'.ownBlock = some w.heap.size) → K (a.put o.dst v') w') : o.wp P a w K Q := by
  have hA : A = none → m = 0 := by
    rintro rfl
    rcases Nat.eq_zero_or_pos m with h0 | h0
    · exact h0
    · obtain ⟨_, _, h, _⟩ := hr h0; cases h
  by_cases hin : ∃ ad, A = some ad ∧ m = 0
  · obtain ⟨ad, rfl, rfl⟩ := hin
    have hn : news = [] := List.eq_nil_of_length_eq_zero (by simpa using hl)
    subst hn
    obtain ⟨i, hi, hz, hsize, hby⟩ := info_parts hinfo
    obtain ⟨v', w', hrun, h2, h3, _, h5⟩ := run_append_own_at (P := P) w base t o.type e i z size bytes ht hi hz hsize hby hzs hsz v n xs hown ad 0 c [] (by simp) (by simp) (by simp) h63 hbytes hbase
    unfold Oper.wp execOp
    simp only [ho, resolve, invoke, builtin, Sem.run_bind, Sem.run_pure, Result.andThen_ok, List.map_toArray, List.map_cons, List.map_nil, hs, hx, hrun]
    exact h v' w' h2 h3 (below_of_grown hown h3 hbase) h5
  · obtain ⟨v', w', hrun, h2, h3, h4⟩ := run_append_src (P := P) w base t o.type e hinfo ht hzs hsz v n xs hown A m c news hl hr hA (fun h0 hne => absurd ⟨A.get (Option.isSome_iff_ne_none.2 hne), by simp, h0⟩ hin) h1 h63 hbytes hbase
    unfold Oper.wp execOp
    simp only [ho, resolve, invoke, builtin, Sem.run_bind, Sem.run_pure, Result.andThen_ok, List.map_toArray, List.map_cons, List.map_nil, hs, hx, hrun]
    exact h v' w' h2 h3 (below_of_grown hown h3 hbase) h4

/-- 'append(s, x...)', x a slice that reads as a list. -/
theorem wpList_appendS {α : Type} {r : Rep α} {fr : Bool} {lo hi : Nat} {ys : List α} (hgd : o.guard = none) (s x : Operand) (t : TypeId) (ho : o.op = .call { callee := .builtin .append, args := #[s, x], argTypes := #[t, t] })
    (base : Nat) (e : TypeId) {z : Value} {bytes : Nat} (hinfo : (P.info? e).map (fun i => (i.zero, i.size, i.bytes)) = some (some z, r.size, bytes)) (ht : P.underlying t = some (.slice e))
    (hzs : z.cells.size = r.size) (v : Value) (n : Nat) (xs : List Value) (hs : a.eval s = v) (hown : w.ownsRow base e r.size v n xs)
    (A : Option Addr) (c : Nat) (hx : a.eval x = .slice A ys.length c) (hr : SliceAt r fr w lo hi A ys)
    (h63 : n + ys.length ≤ maxLen) (hbytes : (n + ys.length) * bytes ≤ 140737488355328) (hbase : base ≤ w.heap.size)
    (h : ∀ v' w' news, r.all fr w (rng lo hi) news ys → w'.ownsRow base e r.size v' (n + ys.length) (xs ++ news) → w.grownBy w' v.ownBlock → Below base w w' → (v'.ownBlock = v.ownBlock ∨ v'.ownBlock = some w.heap.size) → wpList P ops Q rest (a.put o.dst v') w') : wpList P ops Q (o :: rest) a w := by
  obtain ⟨news, h1, h2, h3⟩ := Src.of hr
  exact wpList_plain hgd fun _ hK => wp_append_src s x t ho base e hinfo ht hzs r.pos v n xs hs hown A ys.length c news hx h1 h3 (Rep.all_one h2) h63 hbytes hbase fun v' w' k1 k2 k3 k4 => hK _ _ (h v' w' news h2 k1 k2 k3 k4)

/-- 'append(s, x, y, ..)': the elements lie in a block made on the spot. -/
theorem wpList_appendB {size : Nat} (hgd : o.guard = none) (s x : Operand) (t : TypeId) (ho : o.op = .call { callee := .builtin .append, args := #[s, x], argTypes := #[t, t] })
    (base : Nat) (e : TypeId) {z : Value} {bytes : Nat} (hinfo : (P.info? e).map (fun i => (i.zero, i.size, i.bytes)) = some (some z, size, bytes)) (ht : P.underlying t = some (.slice e))
    (hzs : z.cells.size = size) (hsz : 0 < size) (v : Value) (n : Nat) (xs : List Value) (hs : a.eval s = v) (hown : w.ownsRow base e size v n xs)
    (m c H : Nat) (cs : List Value) (hx : a.eval x = .slice (some ⟨H, 0, none⟩) m c) (hH : w.heap.size = H) (hl : cs.length = m * size) (h1 : ∀ u ∈ cs, u.oneCell' = true)
    (h63 : n + m ≤ maxLen) (hbytes : (n + m) * bytes ≤ 140737488355328) (hbase : base ≤ w.heap.size)
    (h : ∀ v' w', w'.ownsRow base e size v' (n + m) (xs ++ cs) → w.grownBy w' v.ownBlock → Below base w w' → (v'.ownBlock = v.ownBlock ∨ v'.ownBlock = some (w.heap.size + 1)) → wpList P ops Q rest (a.put o.dst v') w') : wpList P ops Q (o :: rest) a (w.alloc (.cells cs.toArray e)) := by
  subst hH
  have hown' : (w.alloc (.cells cs.toArray e)).ownsRow base e size v n xs := hown.alloc _
  refine wpList_plain hgd fun _ hK => wp_append_src s x t ho base e hinfo ht hzs hsz v n xs hs hown' _ m c cs hx hl (Src.block cs e m) h1 h63 hbytes (by simp; omega) fun v' w' k1 k2 k3 k4 => hK _ _ (h v' w' k1 ?_ ?_ (by simpa using k4))
  · have h0 := World.grownBy_alloc w (.cells cs.toArray e) v.ownBlock
    exact ⟨k2.os.trans h0.os, k2.tape.trans h0.tape, k2.output.trans h0.output, Nat.le_trans h0.size k2.size, fun k hk hne => (k2.block k (by simp; omega) hne).trans (h0.block k hk hne)⟩
  · exact ((Below.refl _ _).alloc hbase _).trans k3

/-- 'append(s, x...)' at a step of a region that draws its order. -/
theorem step_appendS {α : Type} {r : Rep α} {fr : Bool} {lo hi : Nat} {ys : List α} {K : Act → World → Prop} {E : Prop} (hgd : o.guard = none) (s x : Operand) (t : TypeId) (ho : o.op = .call { callee := .builtin .append, args := #[s, x], argTypes := #[t, t] })
    (base : Nat) (e : TypeId) {z : Value} {bytes : Nat} (hinfo : (P.info? e).map (fun i => (i.zero, i.size, i.bytes)) = some (some z, r.size, bytes)) (ht : P.underlying t = some (.slice e))
    (hzs : z.cells.size = r.size) (v : Value) (n : Nat) (xs : List Value) (hs : a.eval s = v) (hown : w.ownsRow base e r.size v n xs)
    (A : Option Addr) (c : Nat) (hx : a.eval x = .slice A ys.length c) (hr : SliceAt r fr w lo hi A ys)
    (h63 : n + ys.length ≤ maxLen) (hbytes : (n + ys.length) * bytes ≤ 140737488355328) (hbase : base ≤ w.heap.size)
    (h : ∀ v' w' news, r.all fr w (rng lo hi) news ys → w'.ownsRow base e r.size v' (n + ys.length) (xs ++ news) → w.grownBy w' v.ownBlock → Below base w w' → (v'.ownBlock = v.ownBlock ∨ v'.ownBlock = some w.heap.size) → K (a.put o.dst v') w') :
    if Region.wanted o (yielded ops a.tmps) = true then Oper.wp P o a w K Q else E := by
  obtain ⟨news, h1, h2, h3⟩ := Src.of hr
  have hw : Region.wanted o (yielded ops a.tmps) = true := by simp [Region.wanted, hgd]
  rw [if_pos hw]
  exact wp_append_src s x t ho base e hinfo ht hzs r.pos v n xs hs hown A ys.length c news hx h1 h3 (Rep.all_one h2) h63 hbytes hbase fun v' w' k1 k2 k3 k4 => h v' w' news h2 k1 k2 k3 k4

end

/-! ### Rows of numbers. -/
def ints (l : List Int) : List Value := l.map (Value.int .i64)
@[simp] theorem ints_length (l : List Int) : (ints l).length = l.length := by simp [ints]
theorem ints_all (fr : Bool) (w : World) (S : Nat → Prop) : ∀ l : List Int, Rep.int.all fr w S (ints l) l := by
  intro l
  induction l with
  | nil => exact rfl
  | cons x t ih => exact ⟨[.int .i64 x], ints t, rfl, rfl, ih⟩
/-- A slice of the call's own that holds the numbers 'acc'. -/
def OwnInts (e : TypeId) (base : Nat) (w : World) (v : Value) (acc : List Int) : Prop := w.ownsRow base e 1 v acc.length (ints acc)
theorem OwnInts.slice {e : TypeId} {base lo hi : Nat} {w : World} {v : Value} {acc : List Int} (h : OwnInts e base w v acc) (h1 : lo ≤ base) (h2 : w.heap.size ≤ hi) : SliceIs Rep.int true w lo hi v acc :=
  SliceIs.of_own (r := Rep.int) h (ints_all _ _ _ _) h1 h2
theorem own_lit {w : World} (base : Nat) (e : TypeId) {size : Nat} (n : Nat) (cs : List Value) (hl : cs.length = n * size) (hb : base ≤ w.heap.size) (hn : n ≤ maxLen) :
    (w.alloc (.cells cs.toArray e)).ownsRow base e size (.slice (some ⟨w.heap.size, 0, none⟩) n n) n cs :=
  ⟨hl, .inr ⟨w.heap.size, n, cs.toArray, rfl, hb, heap_alloc_new w _, Nat.le_refl _, hn, by simpa using hl, by rw [← hl]; simp⟩⟩
theorem OwnInts.lit {w : World} (base : Nat) (e : TypeId) (l : List Int) (hb : base ≤ w.heap.size) (hn : l.length ≤ maxLen) :
    OwnInts e base (w.alloc (.cells (ints l).toArray e)) (.slice (some ⟨w.heap.size, 0, none⟩) l.length l.length) l := own_lit base e l.length (ints l) (by simp) hb hn
theorem OwnInts.below {e : TypeId} {base : Nat} {w w' : World} {v : Value} {acc : List Int} (h : OwnInts e base w v acc) (hb : Below w.heap.size w w') : OwnInts e base w' v acc := own_below h hb

section
variable {P : Program} {w : World} {ops : Array Oper} {rest : List Oper} {o : Oper} {a : Act} {Q : Exit → Act → World → Prop}
end
end Go.Proofs.Ytkkbblpofhenpaa

/- piece.Decode: its closures. -/
namespace Go.Proofs.Ytkkbblpofhenpaa
open Go.RowKit

/-- Block g holds the numbers that are left. -/
def Rdr (g lo : Nat) (w : World) (l : List Int) : Prop := ∃ v, w.heap[g]? = some (.cells #[v] 35 (0, 0)) ∧ SliceIs Rep.int false w lo g v l

theorem Rdr.far {g lo : Nat} {w w' : World} {l : List Int} (h : Rdr g lo w l) (hb : ∀ b, b ≤ g → w'.heap[b]? = w.heap[b]?) : Rdr g lo w' l := by
  obtain ⟨v, h1, h2⟩ := h
  exact ⟨v, (hb g (Nat.le_refl _)).trans h1, h2.keep fun b _ hb2 => hb b (by omega)⟩
theorem Rdr.below {g lo B : Nat} {w w' : World} {l : List Int} (h : Rdr g lo w l) (hb : Below B w w') (hB : g < B) : Rdr g lo w' l := h.far fun b h2 => hb.block b (by omega)
theorem Rdr.lt {g lo : Nat} {w : World} {l : List Int} (h : Rdr g lo w l) : g < w.heap.size := by
  obtain ⟨v, h1, _⟩ := h; exact lt_of_block h1

/-- What a reading step leaves: the rest in block g; nothing else has turned. -/
structure Step (g lo : Nat) (w w' : World) (l : List Int) : Prop where
  rdr : Rdr g lo w' l
  only : w.grownBy w' (some g)

theorem grown_cell {w w' : World} {g b : Nat} {o : Obj} (h : w.grownBy w' (some g)) (hb : w.heap[b]? = some o) (hne : b ≠ g) : w'.heap[b]? = some o :=
  (h.block b (by rcases Nat.lt_or_ge b w.heap.size with h1 | h1; exact h1; simp [Array.getElem?_eq_none h1] at hb) (by intro e; injection e with e; exact hne e)).trans hb
theorem grown_trans {a b c : World} {row : Option Nat} (h : a.grownBy b row) (h2 : b.grownBy c row) : a.grownBy c row :=
  ⟨h2.os.trans h.os, h2.tape.trans h.tape, h2.output.trans h.output, Nat.le_trans h.size h2.size, fun k hk hne => (h2.block k (Nat.lt_of_lt_of_le hk h.size) hne).trans (h.block k hk hne)⟩
theorem grown_of_below {a w : World} {row : Option Nat} (h : Below a.heap.size a w) : a.grownBy w row := ⟨h.os, h.tape, h.output, h.size, fun i hi _ => h.block i hi⟩

/-- The variable 'next', and the variable 'count'. -/
def nextV (g : Nat) : Value := .func (.func 73) #[] #[.pointer (some ⟨g, 0, none⟩)]
structure Env (g gn gc : Nat) (w : World) : Prop where
  n : w.heap[gn]? = some (.cells #[nextV g] 119 (0, 0))
  c : w.heap[gc]? = some (.cells #[.func (.func 74) #[] #[.pointer (some ⟨gn, 0, none⟩)]] 120 (0, 0))
  lt : g < gn
  ltc : gn < gc
theorem Env.grown {g gn gc : Nat} {w w' : World} (h : Env g gn gc w) (hg : w.grownBy w' (some g)) : Env g gn gc w' :=
  ⟨grown_cell hg h.n (by have := h.lt; omega), grown_cell hg h.c (by have := h.lt; have := h.ltc; omega), h.lt, h.ltc⟩

/-- While a message is read: its cells are block r. -/
structure MsgInv (g lo gn r : Nat) (w0 w : World) (l : List Int) : Prop where
  rdr : Rdr g lo w l
  fnx : w.heap[gn]? = some (.cells #[nextV g] 119 (0, 0))
  fres : w.heap[r]? = some (.cells #[.int .i64 0, .int .i64 0] 33 (0, 0))
  only : w0.grownBy w (some g)
  ne1 : gn ≠ g
  ne2 : r ≠ g
theorem MsgInv.k {g lo gn r : Nat} {w0 w : World} {l : List Int} (h : MsgInv g lo gn r w0 w l) : w.cell? ⟨gn, 0, none⟩ = some (.func (.func 73) #[] #[.pointer (some ⟨g, 0, none⟩)]) := cell_of_one h.fnx
theorem MsgInv.c0 {g lo gn r : Nat} {w0 w : World} {l : List Int} (h : MsgInv g lo gn r w0 w l) : w.cell? ⟨r, 0, none⟩ = some (.int .i64 0) := cell_of_row w r 0 _ _ _ h.fres
theorem MsgInv.c1 {g lo gn r : Nat} {w0 w : World} {l : List Int} (h : MsgInv g lo gn r w0 w l) : w.cell? ⟨r, 1, none⟩ = some (.int .i64 0) := cell_of_row w r 1 _ _ _ h.fres
theorem MsgInv.f {g lo gn r : Nat} {w0 w : World} {l : List Int} (h : MsgInv g lo gn r w0 w l) (i : Nat) : w.frozen? ⟨r, i, none⟩ = false := by simp [World.frozen?, h.fres]

theorem blk_set {w : World} {g : Nat} {cs : Array Value} {t : TypeId} (h : w.heap[g]? = some (.cells cs t (0, 0))) (i : Nat) (u : Value) : (w.setCell ⟨g, i, none⟩ u).heap[g]? = some (.cells (cs.setIfInBounds i u) t (0, 0)) := by
  simp [World.setCell, Array.getElem?_modify, h]
theorem blk_cell {w : World} {g : Nat} {cs : Array Value} {t : TypeId} (h : w.heap[g]? = some (.cells cs t (0, 0))) (i : Nat) : w.cell? ⟨g, i, none⟩ = cs[i]? := cell_of_row w g i cs t (0, 0) h
theorem grown_new {w0 w : World} {g : Nat} (h : w0.grownBy w (some g)) {p : Addr} (hp : w0.heap.size ≤ p.block) (u : Value) : w0.grownBy (w.setCell p u) (some g) :=
  ⟨h.os, h.tape, h.output, by simpa [World.setCell] using h.size, fun i hi hne => (heap_setCell_other _ _ _ _ (by omega)).trans (h.block i hi hne)⟩

end Go.Proofs.Ytkkbblpofhenpaa

/- piece.lists, as Decode uses it. -/
namespace Go.Proofs.Ytkkbblpofhenpaa
open Go.RowKit

theorem Try.infoMsg : (Try.prog.info? 33).map (fun i => (i.zero, i.size, i.bytes)) = some (some (.agg #[.int .i64 0, .int .i64 0]), 2, 16) := by kernel_rfl
theorem Try.infoInts : (Try.prog.info? 35).map (fun i => (i.zero, i.size, i.bytes)) = some (some (.slice none 0 0), 1, 24) := by kernel_rfl
theorem Try.infoMsgs : (Try.prog.info? 62).map (fun i => (i.zero, i.size, i.bytes)) = some (some (.slice none 0 0), 1, 24) := by kernel_rfl

structure ListInv {α : Type} (r : Rep α) (one : List Int → α × List Int) (e : TypeId) (g lo gn gc B : Nat) (w : World) (l0 : List Int) (j : Nat) (v : Value) (wr : World) : Prop where
  own : ∃ cells S, wr.ownsRow B e r.size v j cells ∧ r.all true wr S cells (Pc.rep one j l0).1 ∧ (∀ b, S b → B ≤ b ∧ b < wr.heap.size) ∧ (∀ b, v.ownBlock = some b → ¬ S b)
  env : Env g gn gc wr
  rdr : Rdr g lo wr (Pc.rep one j l0).2
  only : w.grownBy wr (some g)
  base : gc < B ∧ B = w.heap.size

section
variable {α : Type} {r : Rep α} {one : List Int → α × List Int} {e : TypeId} {g lo gn gc B : Nat} {w wr w1 : World} {l0 : List Int} {j : Nat} {v : Value} {cs : List Value}
theorem ListInv.done (h : ListInv r one e g lo gn gc B w l0 j v wr) : SliceIs r true wr B wr.heap.size v (Pc.rep one j l0).1 := by
  obtain ⟨cells, S, h1, h2, h3, h4⟩ := h.own
  have hl := Pc.rep_len one j l0
  exact SliceOn.of_own (base := B) (e := e) (by rw [hl]; exact h1) (Rep.all_widen (fun b hb => h3 b hb) h2) (fun b hb => h1.lt b hb)
theorem ListInv.next (h : ListInv r one e g lo gn gc B w l0 j v wr) (hs : Step g lo wr w1 (one (Pc.rep one j l0).2).2) (hcs : r.is true w1 (rng wr.heap.size w1.heap.size) cs (one (Pc.rep one j l0).2).1) :
    ∃ cells, w1.ownsRow B e r.size v j cells ∧ B ≤ w1.heap.size ∧ (∀ v' w2, w2.ownsRow B e r.size v' (j + 1) (cells ++ cs) → w1.grownBy w2 v.ownBlock → Below B w1 w2 → (v'.ownBlock = v.ownBlock ∨ v'.ownBlock = some (w1.heap.size + 1)) → ListInv r one e g lo gn gc B w l0 (j + 1) v' w2) := by
  obtain ⟨cells, S, h1, h2, h3, h4⟩ := h.own
  obtain ⟨hb1, hb2⟩ := h.base
  have hlt := h.env.lt
  have hltc := h.env.ltc
  have hsz : wr.heap.size ≤ w1.heap.size := hs.only.size
  have hB : B ≤ wr.heap.size := by rw [hb2]; exact h.only.size
  have own1 : w1.ownsRow B e r.size v j cells := h1.kept hs.only (by
    cases hv : v.ownBlock with
    | none => exact .inl rfl
    | some k => have := (h1.lt k hv).1; exact .inr (fun he => by injection he; omega))
  have all1 : r.all true w1 S cells (Pc.rep one j l0).1 := Rep.all_keep (fun b hb => hs.only.block b (h3 b hb).2 (fun he => by have := (h3 b hb).1; injection he; omega)) h2
  refine ⟨cells, own1, by omega, fun v' w2 ho hg hbl ha => ?_⟩
  have hnew : r.all true w2 (fun b => S b ∨ rng wr.heap.size w1.heap.size b) (cells ++ cs) (Pc.rep one (j + 1) l0).1 := by
    rw [Pc.rep_snoc]
    have k1 : ∀ b, (S b ∨ rng wr.heap.size w1.heap.size b) → w2.heap[b]? = w1.heap[b]? := by
      rintro b (hb | hb)
      · exact hg.block b (Nat.lt_of_lt_of_le (h3 b hb).2 hsz) (fun he => h4 b he.symm hb)
      · refine hg.block b hb.2 (fun he => ?_)
        have := (h1.lt b he.symm).2
        have := hb.1
        omega
    exact Rep.all_snoc (Rep.all_keep k1 (Rep.all_widen (fun b hb => .inl hb) all1)) (r.keep (r.widen hcs (fun b hb => .inr hb)) k1)
  refine ⟨⟨cells ++ cs, _, ho, hnew, ?_, ?_⟩, ?_, ?_, ?_, hb1, hb2⟩
  · rintro b (hb | hb)
    · exact ⟨(h3 b hb).1, Nat.lt_of_lt_of_le (h3 b hb).2 (Nat.le_trans hsz hg.size)⟩
    · exact ⟨by have := hb.1; omega, Nat.lt_of_lt_of_le hb.2 hg.size⟩
  · intro b hb hS
    rcases ha with ha | ha
    · rw [ha] at hb
      rcases hS with hS | hS
      · exact h4 b hb hS
      · have := (h1.lt b hb).2; have := hS.1; omega
    · rw [ha] at hb
      injection hb with hb
      subst hb
      rcases hS with hS | hS
      · have := (h3 _ hS).2; omega
      · have := hS.2; omega
  · have he1 := h.env.grown hs.only
    exact ⟨(hbl.block gn (by omega)).trans he1.n, (hbl.block gc (by omega)).trans he1.c, hlt, hltc⟩
  · rw [Pc.rep_snoc]
    exact hs.rdr.below hbl (by omega)
  · have h5 := grown_trans h.only hs.only
    exact ⟨hbl.os.trans h5.os, hbl.tape.trans h5.tape, hbl.output.trans h5.output, Nat.le_trans h5.size hbl.size, fun k hk hne => (hbl.block k (by omega)).trans (h5.block k hk hne)⟩
end


/-- The reader and the two variables, at a world that has turned in the reader's block alone. -/
structure RE (g gn gc lo : Nat) (w0 w : World) (l : List Int) : Prop where
  env : Env g gn gc w
  rdr : Rdr g lo w l
  only : w0.grownBy w (some g)
theorem RE.step {g gn gc lo : Nat} {w0 w w' : World} {l l' : List Int} (h : RE g gn gc lo w0 w l) (hs : Step g lo w w' l') : RE g gn gc lo w0 w' l' := ⟨h.env.grown hs.only, hs.rdr, grown_trans h.only hs.only⟩
theorem RE.kn {g gn gc lo : Nat} {w0 w : World} {l : List Int} (h : RE g gn gc lo w0 w l) : w.cell? ⟨gn, 0, none⟩ = some (.func (.func 73) #[] #[.pointer (some ⟨g, 0, none⟩)]) := cell_of_one h.env.n
theorem RE.kc {g gn gc lo : Nat} {w0 w : World} {l : List Int} (h : RE g gn gc lo w0 w l) : w.cell? ⟨gc, 0, none⟩ = some (.func (.func 74) #[] #[.pointer (some ⟨gn, 0, none⟩)]) := cell_of_one h.env.c

end Go.Proofs.Ytkkbblpofhenpaa
