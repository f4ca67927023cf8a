/- Equality of lists, for piece.Same: slices.Equal, slices.EqualFunc. -/
import Derived.Test.YtdfgnmdofjhnkaaPC
namespace Go.Proofs.Ytdfgnmdofjhnkaa
open Go.RowKit


theorem eqInts_apart (v u : Value) (xs ys : List Int) (w : World) (h : SliceIs Rep.int false w 0 w.heap.size v xs) (h' : SliceIs Rep.int false w 0 w.heap.size u ys) (hne : xs.length ≠ ys.length) :
    Calls Try.prog 60 #[v, u] w fun x w' => x = .returned (.bool false) ∧ Quiet w w' := by
  obtain ⟨A, c, rfl, l1, m1, _⟩ := h
  obtain ⟨A', c', rfl, l2, m2, _⟩ := h'
  have e : (((xs.length : Nat) : Int) != ((ys.length : Nat) : Int)) = true := by rw [bne_iff_ne]; omega
  clear hne
  unfold maxLen at m1 m2
  go_enter Try.func60, Try.ntmps60
  go_wp2_with fail
  go_ret
  exact ⟨rfl, Quiet.refl _⟩

set_option maxRecDepth 100000 in
set_option maxHeartbeats 2000000 in
theorem eqInts_like (v u : Value) (xs ys : List Int) (w : World) (h : SliceIs Rep.int false w 0 w.heap.size v xs) (h' : SliceIs Rep.int false w 0 w.heap.size u ys) (hne : xs.length = ys.length) :
    Calls Try.prog 60 #[v, u] w fun x w' => x = .returned (.bool (decide (xs = ys))) ∧ Quiet w w' := by
  obtain ⟨A, c, rfl, l1, m1, h1⟩ := h
  obtain ⟨A', c', rfl, l2, m2, h2⟩ := h'
  rw [← hne] at l2 ⊢
  have HN := Lib.hid hne; clear hne
  generalize hd : decide (xs = ys) = d
  have HD := Lib.hid hd; clear hd
  unfold maxLen at m1 m2
  go_enter Try.func60, Try.ntmps60
  go_wp2_with fail
  go_loopg [5, 13] xs.length (fun k _ i wr => ∃ j : Nat, i = .int .i64 (j : Int) ∧ j ≤ xs.length ∧ k = xs.length - j ∧ xs.take j = ys.take j ∧ Quiet w wr)
  case atStart => exact ⟨0, rfl, by omega, by omega, rfl, Quiet.refl _⟩
  case round =>
    obtain ⟨j, rfl, hj, hk, hl, hb⟩ := hrel
    have HL := Lib.hid hl; clear hl
    have HK := Lib.hid hk; clear hk
    by_cases hlt : j < xs.length
    · obtain ⟨x, hx⟩ := Pc.get_at hlt
      obtain ⟨y, hy⟩ := Pc.get_at (l := ys) (j := j) (by have := HN.out; omega)
      obtain ⟨g, o, rfl, _, _, c0⟩ := (hb.at_ h1).int hx
      obtain ⟨g', o', rfl, _, _, c0'⟩ := (hb.at_ h2).int hy
      have HX := Lib.hid hx; clear hx
      have HY := Lib.hid hy; clear hy
      clear h1 h2
      by_cases hxy : x = y
      · subst hxy
        have hbn : (x != x) = false := by simp
        go_wp2_with fail
        go_quiet (fail)
        go_wp2_with fail
        go_roundg (xs.length - (j + 1))
        case rel => exact ⟨j + 1, by simp, by omega, rfl, Pc.like_next HL.out HX.out HY.out, hb.drewN _⟩
        case measure => have := HK.out; omega
      · have HXY := Lib.hid hxy
        have hbn : (x != y) = true := by simpa using hxy
        clear hxy
        go_wp2_with fail
        go_quiet (fail)
        go_wp2_with fail
        go_ret
        exact ⟨by rw [← HD.out, Pc.like_no HX.out HY.out HXY.out]; rfl, hb.drewN _⟩
    · go_wp2_with fail
      go_ret
      exact ⟨by rw [← HD.out, Pc.like_end HN.out hlt HL.out]; rfl, hb⟩

theorem eqInts_any (v u : Value) (xs ys : List Int) (w : World) (h : SliceIs Rep.int false w 0 w.heap.size v xs) (h' : SliceIs Rep.int false w 0 w.heap.size u ys) :
    Calls Try.prog 60 #[v, u] w fun x w' => x = .returned (.bool (decide (xs = ys))) ∧ Quiet w w' := by
  by_cases hne : xs.length = ys.length
  · exact eqInts_like v u xs ys w h h' hne
  · rw [Pc.like_len hne]
    exact eqInts_apart v u xs ys w h h' hne

theorem eqMsgs_apart (v u : Value) (xs ys : List (Int × Int)) (w : World) (h : SliceIs Rep.msg false w 0 w.heap.size v xs) (h' : SliceIs Rep.msg false w 0 w.heap.size u ys) (hne : xs.length ≠ ys.length) :
    Calls Try.prog 62 #[v, u] w fun x w' => x = .returned (.bool false) ∧ Quiet w w' := by
  obtain ⟨A, c, rfl, l1, m1, _⟩ := h
  obtain ⟨A', c', rfl, l2, m2, _⟩ := h'
  have e : (((xs.length : Nat) : Int) != ((ys.length : Nat) : Int)) = true := by rw [bne_iff_ne]; omega
  clear hne
  unfold maxLen at m1 m2
  go_enter Try.func62, Try.ntmps62
  go_wp2_with fail
  go_ret
  exact ⟨rfl, Quiet.refl _⟩

set_option maxRecDepth 100000 in
set_option maxHeartbeats 2000000 in
theorem eqMsgs_like (v u : Value) (xs ys : List (Int × Int)) (w : World) (h : SliceIs Rep.msg false w 0 w.heap.size v xs) (h' : SliceIs Rep.msg false w 0 w.heap.size u ys) (hne : xs.length = ys.length) :
    Calls Try.prog 62 #[v, u] w fun x w' => x = .returned (.bool (decide (xs = ys))) ∧ Quiet w w' := by
  obtain ⟨A, c, rfl, l1, m1, h1⟩ := h
  obtain ⟨A', c', rfl, l2, m2, h2⟩ := h'
  rw [← hne] at l2 ⊢
  have HN := Lib.hid hne; clear hne
  generalize hd : decide (xs = ys) = d
  have HD := Lib.hid hd; clear hd
  unfold maxLen at m1 m2
  go_enter Try.func62, Try.ntmps62
  go_wp2_with fail
  go_loopg [5, 13] xs.length (fun k _ i wr => ∃ j : Nat, i = .int .i64 (j : Int) ∧ j ≤ xs.length ∧ k = xs.length - j ∧ xs.take j = ys.take j ∧ Quiet w wr)
  case atStart => exact ⟨0, rfl, by omega, by omega, rfl, Quiet.refl _⟩
  case round =>
    obtain ⟨j, rfl, hj, hk, hl, hb⟩ := hrel
    have HL := Lib.hid hl; clear hl
    have HK := Lib.hid hk; clear hk
    by_cases hlt : j < xs.length
    · obtain ⟨x, hx⟩ := Pc.get_at hlt
      obtain ⟨y, hy⟩ := Pc.get_at (l := ys) (j := j) (by have := HN.out; omega)
      obtain ⟨x, x'⟩ := x
      obtain ⟨y, y'⟩ := y
      obtain ⟨g, o, rfl, _, _, c0, c1⟩ := (hb.at_ h1).msg hx
      obtain ⟨g', o', rfl, _, _, c0', c1'⟩ := (hb.at_ h2).msg hy
      dsimp only at c0 c1 c0' c1'
      have HX := Lib.hid hx; clear hx
      have HY := Lib.hid hy; clear hy
      clear h1 h2
      by_cases hxy : x = y
      · subst hxy
        by_cases hxy' : x' = y'
        · subst hxy'
          have hbn : (x == x) = true := by simp
          have hbn' : (x' == x') = true := by simp
          go_wp2_with fail
          go_quiet (fail)
          go_wp2_with fail
          go_roundg (xs.length - (j + 1))
          case rel => exact ⟨j + 1, by simp, by omega, rfl, Pc.like_next HL.out HX.out HY.out, hb.drewN _⟩
          case measure => have := HK.out; omega
        · have HXY := Lib.hid hxy'
          have hbn : (x == x) = true := by simp
          have hbn' : (x' == y') = false := by simpa using hxy'
          clear hxy'
          go_wp2_with fail
          go_quiet (fail)
          go_wp2_with fail
          go_ret
          exact ⟨by rw [← HD.out, Pc.like_no HX.out HY.out (fun e => HXY.out (by injection e))]; rfl, hb.drewN _⟩
      · have HXY := Lib.hid hxy
        have hbn : (x == y) = false := by simpa using hxy
        clear hxy
        go_wp2_with fail
        go_quiet (fail)
        go_wp2_with fail
        go_ret
        exact ⟨by rw [← HD.out, Pc.like_no HX.out HY.out (fun e => HXY.out (by injection e))]; rfl, hb.drewN _⟩
    · go_wp2_with fail
      go_ret
      exact ⟨by rw [← HD.out, Pc.like_end HN.out hlt HL.out]; rfl, hb⟩

theorem eqMsgs_any (v u : Value) (xs ys : List (Int × Int)) (w : World) (h : SliceIs Rep.msg false w 0 w.heap.size v xs) (h' : SliceIs Rep.msg false w 0 w.heap.size u ys) :
    Calls Try.prog 62 #[v, u] w fun x w' => x = .returned (.bool (decide (xs = ys))) ∧ Quiet w w' := by
  by_cases hne : xs.length = ys.length
  · exact eqMsgs_like v u xs ys w h h' hne
  · rw [Pc.like_len hne]
    exact eqMsgs_apart v u xs ys w h h' hne

theorem eqfMsgs_apart (v u : Value) (xs ys : List (List (Int × Int))) (w : World) (h : SliceIs Rep.msg.slice false w 0 w.heap.size v xs) (h' : SliceIs Rep.msg.slice false w 0 w.heap.size u ys) (hne : xs.length ≠ ys.length) :
    Calls Try.prog 61 #[v, u, .func (.func 62) #[] #[]] w fun x w' => x = .returned (.bool false) ∧ Quiet w w' := by
  obtain ⟨A, c, rfl, l1, m1, _⟩ := h
  obtain ⟨A', c', rfl, l2, m2, _⟩ := h'
  have e : (((xs.length : Nat) : Int) != ((ys.length : Nat) : Int)) = true := by rw [bne_iff_ne]; omega
  clear hne
  unfold maxLen at m1 m2
  go_enter Try.func61, Try.ntmps61
  go_wp2_with fail
  go_ret
  exact ⟨rfl, Quiet.refl _⟩

set_option maxRecDepth 100000 in
set_option maxHeartbeats 2000000 in
theorem eqfMsgs_like (v u : Value) (xs ys : List (List (Int × Int))) (w : World) (h : SliceIs Rep.msg.slice false w 0 w.heap.size v xs) (h' : SliceIs Rep.msg.slice false w 0 w.heap.size u ys) (hne : xs.length = ys.length) :
    Calls Try.prog 61 #[v, u, .func (.func 62) #[] #[]] w fun x w' => x = .returned (.bool (decide (xs = ys))) ∧ Quiet w w' := by
  obtain ⟨A, c, rfl, l1, m1, h1⟩ := h
  obtain ⟨A', c', rfl, l2, m2, h2⟩ := h'
  rw [← hne] at l2 ⊢
  have HN := Lib.hid hne; clear hne
  generalize hd : decide (xs = ys) = d
  have HD := Lib.hid hd; clear hd
  unfold maxLen at m1 m2
  go_enter Try.func61, Try.ntmps61
  go_wp2_with fail
  go_loopg [7, 8, 9, 17] xs.length (fun k _ _ _ i wr => ∃ j : Nat, i = .int .i64 (j : Int) ∧ j ≤ xs.length ∧ k = xs.length - j ∧ xs.take j = ys.take j ∧ Quiet w wr)
  case atStart => exact ⟨0, rfl, by omega, by omega, rfl, Quiet.refl _⟩
  case round =>
    obtain ⟨j, rfl, hj, hk, hl, hb⟩ := hrel
    have HL := Lib.hid hl; clear hl
    have HK := Lib.hid hk; clear hk
    by_cases hlt : j < xs.length
    · obtain ⟨x, hx⟩ := Pc.get_at hlt
      obtain ⟨y, hy⟩ := Pc.get_at (l := ys) (j := j) (by have := HN.out; omega)
      obtain ⟨g, o, vx, rfl, _, _, c0, hvx⟩ := (hb.at_ h1).row hx
      obtain ⟨g', o', vy, rfl, _, _, c0', hvy⟩ := (hb.at_ h2).row hy
      have HX := Lib.hid hx; clear hx
      have HY := Lib.hid hy; clear hy
      clear h1 h2
      have hsz := hb.size
      go_wp2_with fail
      refine (eqMsgs_any vx vy x y _ (hvx.widen (Nat.le_refl _) (by omega)) (hvy.widen (Nat.le_refl _) (by omega))).mono ?_
      rintro e w1 ⟨rfl, hb1⟩
      replace hb := hb.trans hb1
      clear hb1 hsz
      cases hxy : decide (x = y)
      · have HXY := Lib.hid (of_decide_eq_false hxy); clear hxy
        go_wp2_with fail
        go_ret
        exact ⟨by rw [← HD.out, Pc.like_no HX.out HY.out HXY.out]; rfl, hb⟩
      · have HXY := Lib.hid (of_decide_eq_true hxy); clear hxy
        go_wp2_with fail
        go_roundg (xs.length - (j + 1))
        case rel => exact ⟨j + 1, by simp, by omega, rfl, Pc.like_next HL.out HX.out (by rw [HXY.out]; exact HY.out), hb⟩
        case measure => have := HK.out; omega
    · go_wp2_with fail
      go_ret
      exact ⟨by rw [← HD.out, Pc.like_end HN.out hlt HL.out]; rfl, hb⟩

theorem eqfMsgs_any (v u : Value) (xs ys : List (List (Int × Int))) (w : World) (h : SliceIs Rep.msg.slice false w 0 w.heap.size v xs) (h' : SliceIs Rep.msg.slice false w 0 w.heap.size u ys) :
    Calls Try.prog 61 #[v, u, .func (.func 62) #[] #[]] w fun x w' => x = .returned (.bool (decide (xs = ys))) ∧ Quiet w w' := by
  by_cases hne : xs.length = ys.length
  · exact eqfMsgs_like v u xs ys w h h' hne
  · rw [Pc.like_len hne]
    exact eqfMsgs_apart v u xs ys w h h' hne

theorem eqfInts_apart (v u : Value) (xs ys : List (List Int)) (w : World) (h : SliceIs Rep.int.slice false w 0 w.heap.size v xs) (h' : SliceIs Rep.int.slice false w 0 w.heap.size u ys) (hne : xs.length ≠ ys.length) :
    Calls Try.prog 63 #[v, u, .func (.func 60) #[] #[]] w fun x w' => x = .returned (.bool false) ∧ Quiet w w' := by
  obtain ⟨A, c, rfl, l1, m1, _⟩ := h
  obtain ⟨A', c', rfl, l2, m2, _⟩ := h'
  have e : (((xs.length : Nat) : Int) != ((ys.length : Nat) : Int)) = true := by rw [bne_iff_ne]; omega
  clear hne
  unfold maxLen at m1 m2
  go_enter Try.func63, Try.ntmps63
  go_wp2_with fail
  go_ret
  exact ⟨rfl, Quiet.refl _⟩

set_option maxRecDepth 100000 in
set_option maxHeartbeats 2000000 in
theorem eqfInts_like (v u : Value) (xs ys : List (List Int)) (w : World) (h : SliceIs Rep.int.slice false w 0 w.heap.size v xs) (h' : SliceIs Rep.int.slice false w 0 w.heap.size u ys) (hne : xs.length = ys.length) :
    Calls Try.prog 63 #[v, u, .func (.func 60) #[] #[]] w fun x w' => x = .returned (.bool (decide (xs = ys))) ∧ Quiet w w' := by
  obtain ⟨A, c, rfl, l1, m1, h1⟩ := h
  obtain ⟨A', c', rfl, l2, m2, h2⟩ := h'
  rw [← hne] at l2 ⊢
  have HN := Lib.hid hne; clear hne
  generalize hd : decide (xs = ys) = d
  have HD := Lib.hid hd; clear hd
  unfold maxLen at m1 m2
  go_enter Try.func63, Try.ntmps63
  go_wp2_with fail
  go_loopg [7, 8, 9, 17] xs.length (fun k _ _ _ i wr => ∃ j : Nat, i = .int .i64 (j : Int) ∧ j ≤ xs.length ∧ k = xs.length - j ∧ xs.take j = ys.take j ∧ Quiet w wr)
  case atStart => exact ⟨0, rfl, by omega, by omega, rfl, Quiet.refl _⟩
  case round =>
    obtain ⟨j, rfl, hj, hk, hl, hb⟩ := hrel
    have HL := Lib.hid hl; clear hl
    have HK := Lib.hid hk; clear hk
    by_cases hlt : j < xs.length
    · obtain ⟨x, hx⟩ := Pc.get_at hlt
      obtain ⟨y, hy⟩ := Pc.get_at (l := ys) (j := j) (by have := HN.out; omega)
      obtain ⟨g, o, vx, rfl, _, _, c0, hvx⟩ := (hb.at_ h1).row hx
      obtain ⟨g', o', vy, rfl, _, _, c0', hvy⟩ := (hb.at_ h2).row hy
      have HX := Lib.hid hx; clear hx
      have HY := Lib.hid hy; clear hy
      clear h1 h2
      have hsz := hb.size
      go_wp2_with fail
      refine (eqInts_any vx vy x y _ (hvx.widen (Nat.le_refl _) (by omega)) (hvy.widen (Nat.le_refl _) (by omega))).mono ?_
      rintro e w1 ⟨rfl, hb1⟩
      replace hb := hb.trans hb1
      clear hb1 hsz
      cases hxy : decide (x = y)
      · have HXY := Lib.hid (of_decide_eq_false hxy); clear hxy
        go_wp2_with fail
        go_ret
        exact ⟨by rw [← HD.out, Pc.like_no HX.out HY.out HXY.out]; rfl, hb⟩
      · have HXY := Lib.hid (of_decide_eq_true hxy); clear hxy
        go_wp2_with fail
        go_roundg (xs.length - (j + 1))
        case rel => exact ⟨j + 1, by simp, by omega, rfl, Pc.like_next HL.out HX.out (by rw [HXY.out]; exact HY.out), hb⟩
        case measure => have := HK.out; omega
    · go_wp2_with fail
      go_ret
      exact ⟨by rw [← HD.out, Pc.like_end HN.out hlt HL.out]; rfl, hb⟩

theorem eqfInts_any (v u : Value) (xs ys : List (List Int)) (w : World) (h : SliceIs Rep.int.slice false w 0 w.heap.size v xs) (h' : SliceIs Rep.int.slice false w 0 w.heap.size u ys) :
    Calls Try.prog 63 #[v, u, .func (.func 60) #[] #[]] w fun x w' => x = .returned (.bool (decide (xs = ys))) ∧ Quiet w w' := by
  by_cases hne : xs.length = ys.length
  · exact eqfInts_like v u xs ys w h h' hne
  · rw [Pc.like_len hne]
    exact eqfInts_apart v u xs ys w h h' hne
end Go.Proofs.Ytdfgnmdofjhnkaa
