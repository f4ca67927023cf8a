/- Equality of lists: slices.Equal, slices.EqualFunc, the document's Ints and Msgs. -/
import Derived.Test.YtmbilaepeekglaaProg
import Derived.Test.YtmbilaepeekglaaSeq
import Derived.Test.YtmbilaepeekglaaPRep
import Derived.Test.YtmbilaepeekglaaPlan
namespace Go.Proofs.Ytmbilaepeekglaa
open Go.RowKit

namespace Pc
theorem like_next {α : Type} {xs ys : List α} {j : Nat} {x : α} (h : xs.take j = ys.take j) (hx : xs[j]? = some x) (hy : ys[j]? = some x) : xs.take (j + 1) = ys.take (j + 1) := by
  rw [List.take_add_one, List.take_add_one, h, hx, hy]
theorem like_no {α : Type} [DecidableEq α] {xs ys : List α} {j : Nat} {x y : α} (hx : xs[j]? = some x) (hy : ys[j]? = some y) (h : x ≠ y) : decide (xs = ys) = false := by
  apply decide_eq_false
  rintro rfl
  rw [hx] at hy; injection hy with hy; exact h hy
theorem like_end {α : Type} [DecidableEq α] {xs ys : List α} {j : Nat} (hn : xs.length = ys.length) (hj : ¬ j < xs.length) (h : xs.take j = ys.take j) : decide (xs = ys) = true := by
  apply decide_eq_true
  rwa [List.take_of_length_le (by omega), List.take_of_length_le (by omega)] at h
theorem like_len {α : Type} [DecidableEq α] {xs ys : List α} (hn : xs.length ≠ ys.length) : decide (xs = ys) = false := by
  apply decide_eq_false
  rintro rfl
  exact hn rfl
end Pc
def Quiet (w w' : World) : Prop := ∃ n, w' = w.drewN n
theorem Quiet.refl (w : World) : Quiet w w := ⟨0, rfl⟩
theorem Quiet.drewN {w w' : World} (h : Quiet w w') (n : Nat) : Quiet w (w'.drewN n) := by
  obtain ⟨m, rfl⟩ := h; exact ⟨m + n, by rw [World.drewN_drewN]⟩
theorem Quiet.trans {a b c : World} (h : Quiet a b) (h' : Quiet b c) : Quiet a c := by
  obtain ⟨n, rfl⟩ := h'; exact h.drewN n
theorem Quiet.below {B : Nat} {w w' : World} (h : Quiet w w') : Below B w w' := by
  obtain ⟨n, rfl⟩ := h; exact below_drewN (Below.refl _ _) n
theorem Quiet.heap {w w' : World} (h : Quiet w w') : w'.heap = w.heap := by
  obtain ⟨n, rfl⟩ := h; rfl
theorem Quiet.size {w w' : World} (h : Quiet w w') : w'.heap.size = w.heap.size := by rw [h.heap]
theorem Quiet.slice {α : Type} {r : Rep α} {fr : Bool} {lo hi : Nat} {w w' : World} {v : Value} {xs : List α} (h : Quiet w w') (hs : SliceIs r fr w lo hi v xs) : SliceIs r fr w' lo hi v xs := hs.keep fun _ _ _ => by rw [h.heap]
theorem Quiet.at_ {α : Type} {r : Rep α} {fr : Bool} {lo hi : Nat} {w w' : World} {A : Option Addr} {xs : List α} (h : Quiet w w') (hs : SliceAt r fr w lo hi A xs) : SliceAt r fr w' lo hi A xs := hs.keep fun _ _ _ => by rw [h.heap]


theorem msgs_apart (v u : Value) (xs ys : List (Int × Int)) (w : World) (h : SliceIs Rep.msg false w 0 w.heap.size v xs) (h' : SliceIs Rep.msg false w 0 w.heap.size u ys) (hne : xs.length ≠ ys.length) :
    Calls Try.prog 16 #[v, u] w fun x w' => x = .returned (.bool false) ∧ Quiet w w' := by
  obtain ⟨A, c, rfl, l1, m1, _⟩ := h
  obtain ⟨A', c', rfl, l2, m2, _⟩ := h'
  have e : (((xs.length : Nat) : Int) != ((ys.length : Nat) : Int)) = true := by rw [bne_iff_ne]; omega
  clear hne
  unfold maxLen at m1 m2
  go_enter Try.func16, Try.ntmps16
  go_wp2_with fail
  go_ret
  exact ⟨rfl, Quiet.refl _⟩

set_option maxRecDepth 100000 in
set_option maxHeartbeats 2000000 in
theorem msgs_like (v u : Value) (xs ys : List (Int × Int)) (w : World) (h : SliceIs Rep.msg false w 0 w.heap.size v xs) (h' : SliceIs Rep.msg false w 0 w.heap.size u ys) (hne : xs.length = ys.length) :
    Calls Try.prog 16 #[v, u] w fun x w' => x = .returned (.bool (decide (xs = ys))) ∧ Quiet w w' := by
  obtain ⟨A, c, rfl, l1, m1, h1⟩ := h
  obtain ⟨A', c', rfl, l2, m2, h2⟩ := h'
  rw [← hne] at l2 ⊢
  have HN := Lib.hid hne; clear hne
  generalize hd : decide (xs = ys) = d
  have HD := Lib.hid hd; clear hd
  unfold maxLen at m1 m2
  go_enter Try.func16, Try.ntmps16
  go_wp2_with fail
  go_loopg [5] xs.length (fun k i wr => ∃ j : Nat, i = .int .i64 (j : Int) ∧ j ≤ xs.length ∧ k = xs.length - j ∧ xs.take j = ys.take j ∧ Quiet w wr)
  case atStart => exact ⟨0, rfl, by omega, by omega, rfl, Quiet.refl _⟩
  case round =>
    obtain ⟨j, rfl, hj, hk, hl, hb⟩ := hrel
    have HL := Lib.hid hl; clear hl
    have HK := Lib.hid hk; clear hk
    by_cases hlt : j < xs.length
    · obtain ⟨x, hx⟩ := Pc.get_at hlt
      obtain ⟨y, hy⟩ := Pc.get_at (l := ys) (j := j) (by have := HN.out; omega)
      obtain ⟨x, x'⟩ := x
      obtain ⟨y, y'⟩ := y
      obtain ⟨g, o, rfl, _, _, c0, c1⟩ := (hb.at_ h1).msg hx
      obtain ⟨g', o', rfl, _, _, c0', c1'⟩ := (hb.at_ h2).msg hy
      dsimp only at c0 c1 c0' c1'
      have HX := Lib.hid hx; clear hx
      have HY := Lib.hid hy; clear hy
      clear h1 h2
      by_cases hxy : x = y
      · subst hxy
        by_cases hxy' : x' = y'
        · subst hxy'
          have hbn : (x == x) = true := by simp
          have hbn' : (x' == x') = true := by simp
          go_wp2_with fail
          go_quiet (fail)
          go_wp2_with fail
          go_roundg (xs.length - (j + 1))
          case rel => exact ⟨j + 1, by simp, by omega, rfl, Pc.like_next HL.out HX.out HY.out, hb.drewN _⟩
          case measure => have := HK.out; omega
        · have HXY := Lib.hid hxy'
          have hbn : (x == x) = true := by simp
          have hbn' : (x' == y') = false := by simpa using hxy'
          clear hxy'
          go_wp2_with fail
          go_quiet (fail)
          go_wp2_with fail
          go_ret
          exact ⟨by rw [← HD.out, Pc.like_no HX.out HY.out (fun e => HXY.out (by injection e))]; rfl, hb.drewN _⟩
      · have HXY := Lib.hid hxy
        have hbn : (x == y) = false := by simpa using hxy
        clear hxy
        go_wp2_with fail
        go_quiet (fail)
        go_wp2_with fail
        go_ret
        exact ⟨by rw [← HD.out, Pc.like_no HX.out HY.out (fun e => HXY.out (by injection e))]; rfl, hb.drewN _⟩
    · go_wp2_with fail
      go_ret
      exact ⟨by rw [← HD.out, Pc.like_end HN.out hlt HL.out]; rfl, hb⟩

theorem msgs_any (v u : Value) (xs ys : List (Int × Int)) (w : World) (h : SliceIs Rep.msg false w 0 w.heap.size v xs) (h' : SliceIs Rep.msg false w 0 w.heap.size u ys) :
    Calls Try.prog 16 #[v, u] w fun x w' => x = .returned (.bool (decide (xs = ys))) ∧ Quiet w w' := by
  by_cases hne : xs.length = ys.length
  · exact msgs_like v u xs ys w h h' hne
  · rw [Pc.like_len hne]
    exact msgs_apart v u xs ys w h h' hne

theorem rints_apart (v u : Value) (xs ys : List Int) (w : World) (h : SliceIs Rep.int false w 0 w.heap.size v xs) (h' : SliceIs Rep.int false w 0 w.heap.size u ys) (hne : xs.length ≠ ys.length) :
    Calls Try.prog 37 #[v, u] w fun x w' => x = .returned (.bool false) ∧ Quiet w w' := by
  obtain ⟨A, c, rfl, l1, m1, _⟩ := h
  obtain ⟨A', c', rfl, l2, m2, _⟩ := h'
  have e : (((xs.length : Nat) : Int) != ((ys.length : Nat) : Int)) = true := by rw [bne_iff_ne]; omega
  clear hne
  unfold maxLen at m1 m2
  go_enter Try.func37, Try.ntmps37
  go_wp2_with fail
  go_ret
  exact ⟨rfl, Quiet.refl _⟩

set_option maxRecDepth 100000 in
set_option maxHeartbeats 2000000 in
theorem rints_like (v u : Value) (xs ys : List Int) (w : World) (h : SliceIs Rep.int false w 0 w.heap.size v xs) (h' : SliceIs Rep.int false w 0 w.heap.size u ys) (hne : xs.length = ys.length) :
    Calls Try.prog 37 #[v, u] w fun x w' => x = .returned (.bool (decide (xs = ys))) ∧ Quiet w w' := by
  obtain ⟨A, c, rfl, l1, m1, h1⟩ := h
  obtain ⟨A', c', rfl, l2, m2, h2⟩ := h'
  rw [← hne] at l2 ⊢
  have HN := Lib.hid hne; clear hne
  generalize hd : decide (xs = ys) = d
  have HD := Lib.hid hd; clear hd
  unfold maxLen at m1 m2
  go_enter Try.func37, Try.ntmps37
  go_wp2_with fail
  go_loopg [5] xs.length (fun k i wr => ∃ j : Nat, i = .int .i64 (j : Int) ∧ j ≤ xs.length ∧ k = xs.length - j ∧ xs.take j = ys.take j ∧ Quiet w wr)
  case atStart => exact ⟨0, rfl, by omega, by omega, rfl, Quiet.refl _⟩
  case round =>
    obtain ⟨j, rfl, hj, hk, hl, hb⟩ := hrel
    have HL := Lib.hid hl; clear hl
    have HK := Lib.hid hk; clear hk
    by_cases hlt : j < xs.length
    · obtain ⟨x, hx⟩ := Pc.get_at hlt
      obtain ⟨y, hy⟩ := Pc.get_at (l := ys) (j := j) (by have := HN.out; omega)
      obtain ⟨g, o, rfl, _, _, c0⟩ := (hb.at_ h1).int hx
      obtain ⟨g', o', rfl, _, _, c0'⟩ := (hb.at_ h2).int hy
      have HX := Lib.hid hx; clear hx
      have HY := Lib.hid hy; clear hy
      clear h1 h2
      by_cases hxy : x = y
      · subst hxy
        have hbn : (x != x) = false := by simp
        go_wp2_with fail
        go_quiet (fail)
        go_wp2_with fail
        go_roundg (xs.length - (j + 1))
        case rel => exact ⟨j + 1, by simp, by omega, rfl, Pc.like_next HL.out HX.out HY.out, hb.drewN _⟩
        case measure => have := HK.out; omega
      · have HXY := Lib.hid hxy
        have hbn : (x != y) = true := by simpa using hxy
        clear hxy
        go_wp2_with fail
        go_quiet (fail)
        go_wp2_with fail
        go_ret
        exact ⟨by rw [← HD.out, Pc.like_no HX.out HY.out HXY.out]; rfl, hb.drewN _⟩
    · go_wp2_with fail
      go_ret
      exact ⟨by rw [← HD.out, Pc.like_end HN.out hlt HL.out]; rfl, hb⟩

theorem rints_any (v u : Value) (xs ys : List Int) (w : World) (h : SliceIs Rep.int false w 0 w.heap.size v xs) (h' : SliceIs Rep.int false w 0 w.heap.size u ys) :
    Calls Try.prog 37 #[v, u] w fun x w' => x = .returned (.bool (decide (xs = ys))) ∧ Quiet w w' := by
  by_cases hne : xs.length = ys.length
  · exact rints_like v u xs ys w h h' hne
  · rw [Pc.like_len hne]
    exact rints_apart v u xs ys w h h' hne
end Go.Proofs.Ytmbilaepeekglaa
