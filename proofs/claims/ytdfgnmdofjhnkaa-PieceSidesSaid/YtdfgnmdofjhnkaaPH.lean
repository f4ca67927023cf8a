/- piece.Encode -/
import Derived.Test.YtdfgnmdofjhnkaaPB
import Derived.Test.YtdfgnmdofjhnkaaApp
namespace Go.Proofs.Ytdfgnmdofjhnkaa
open Go.RowKit

theorem IsInts.of_slice {w : World} {fr : Bool} {v : Value} {xs : List Int} {hi : Nat} (h : SliceIs Rep.int fr w 0 hi v xs) : IsInts w hi v xs := isInts_of h

def EncRel (A0 : List Int) (f : Nat → List Int) (n B : Nat) (W : World) (k : Nat) (v i : Value) (wr : World) : Prop :=
  ∃ (j : Nat) (acc : List Int), i = .int .i64 (j : Int) ∧ j ≤ n ∧ k = n - j ∧ OwnInts 3 B wr v acc ∧ acc = A0 ++ f j ∧ acc.length ≤ 20000 ∧ Below B W wr

set_option maxRecDepth 100000 in
set_option maxHeartbeats 8000000 in
theorem encode_yes (v : Value) (p : Pc.Piece) (w : World) (h : PieceIs false w 0 w.heap.size v p) (hh : Pc.right p = true) : Calls Try.prog 16 #[v] w
    fun x w' => x = .returned (.tuple #[.string ⟨(W.puts (Pc.nums p)).toArray⟩, .int .i64 0]) ∧ Below w.heap.size w w' := by
  have hsm := Pc.small_of hh
  have hR := fun w h => right_any v p w h
  rw [hh] at hR
  obtain ⟨n, s, t, xs, ms, os⟩ := p
  obtain ⟨a, b, c, rfl, h1, h2, h3⟩ := h
  dsimp only at h1 h2 h3 ⊢
  have hn : Pc.nums ⟨n, s, t, xs, ms, os⟩ = ([n, s, t, (xs.length : Int)] ++ xs ++ [(ms.length : Int)] ++ Pc.numsIn ms) ++ [(os.length : Int)] ++ Pc.numsOut os := rfl
  generalize Pc.nums ⟨n, s, t, xs, ms, os⟩ = nn at hn ⊢
  have HN := Lib.hid hn; clear hn
  have hb0 : Below w.heap.size w (w.alloc (.cells #[.int .i64 n, .int .i64 s, .int .i64 t, a, b, c] 26)) := (Below.refl _ _).alloc (Nat.le_refl _) _
  have hPW : PieceIs false (w.alloc (.cells #[.int .i64 n, .int .i64 s, .int .i64 t, a, b, c] 26)) 0 (w.alloc (.cells #[.int .i64 n, .int .i64 s, .int .i64 t, a, b, c] 26)).heap.size (.agg #[.int .i64 n, .int .i64 s, .int .i64 t, a, b, c]) ⟨n, s, t, xs, ms, os⟩ :=
    ⟨a, b, c, rfl, (h1.below hb0 (Nat.le_refl _)).widen (Nat.le_refl _) hb0.size, (h2.below hb0 (Nat.le_refl _)).widen (Nat.le_refl _) hb0.size, (h3.below hb0 (Nat.le_refl _)).widen (Nat.le_refl _) hb0.size⟩
  obtain ⟨A1, c1, rfl, l1, m1, h1⟩ := h1
  obtain ⟨A2, c2, rfl, l2, m2, h2⟩ := h2
  obtain ⟨A3, c3, rfl, l3, m3, h3⟩ := h3
  have HR := Lib.hid (hR _ hPW); clear hR hPW
  unfold maxLen at m1 m2 m3
  obtain ⟨q1, q2, q3, q4, q5⟩ := hsm
  dsimp only at q1 q2 q3 q4 q5
  have hni : ∀ j, (Pc.numsIn (ms.take j)).length ≤ 5005 := fun j => by
    have := Pc.numsIn_len (ms.take j) (fun x hx => q4 x (List.mem_of_mem_take hx))
    have : (ms.take j).length ≤ 5 := by simp; omega
    omega
  have hno : ∀ j, (Pc.numsOut (os.take j)).length ≤ 2505 := fun j => by
    have := Pc.numsOut_len (os.take j) (fun x hx => q5 x (List.mem_of_mem_take hx))
    have : (os.take j).length ≤ 5 := by simp; omega
    omega
  have HNI := Lib.hid hni; clear hni
  have HNO := Lib.hid hno; clear hno
  have HQ4 := Lib.hid q4; clear q4
  have HQ5 := Lib.hid q5; clear q5
  go_enter Try.func16, Try.ntmps16
  go_wp2_with fail
  refine (HR.out).mono ?_
  rintro e w1 ⟨rfl, hb1⟩
  have hlt0 : w.heap.size < w1.heap.size := by have := hb1.size; simp at this; omega
  replace hb1 := hb1.mono (B' := w.heap.size + 1) (by simp)
  have k0 : w1.cell? ⟨w.heap.size, 0, none⟩ = some (.int .i64 n) := (hb1.cell (by simp)).trans (by simp [go_sem])
  have k1 : w1.cell? ⟨w.heap.size, 1, none⟩ = some (.int .i64 s) := (hb1.cell (by simp)).trans (by simp [go_sem])
  have k2 : w1.cell? ⟨w.heap.size, 2, none⟩ = some (.int .i64 t) := (hb1.cell (by simp)).trans (by simp [go_sem])
  have k3 : w1.cell? ⟨w.heap.size, 3, none⟩ = some (.slice A1 xs.length c1) := (hb1.cell (by simp)).trans (by simp [go_sem])
  have k4 : w1.cell? ⟨w.heap.size, 4, none⟩ = some (.slice A2 ms.length c2) := (hb1.cell (by simp)).trans (by simp [go_sem])
  have k5 : w1.cell? ⟨w.heap.size, 5, none⟩ = some (.slice A3 os.length c3) := (hb1.cell (by simp)).trans (by simp [go_sem])
  replace hb0 := hb0.trans (hb1.mono (by omega))
  clear hb1
  replace h1 := h1.below hb0 (Nat.le_refl _)
  replace h2 := h2.below hb0 (Nat.le_refl _)
  replace h3 := h3.below hb0 (Nat.le_refl _)
  have HB0 := Lib.hid hb0; clear hb0
  have KK4 := Lib.hid k4; have KK5 := Lib.hid k5
  have hown : OwnInts 3 w1.heap.size (w1.alloc (.cells (ints [n, s, t, (xs.length : Int)]).toArray 3)) (.slice (some ⟨w1.heap.size, 0, none⟩) 4 4) [n, s, t, (xs.length : Int)] :=
    OwnInts.lit _ _ _ (Nat.le_refl _) (by simp [maxLen])
  have hb2 : Below w1.heap.size w1 (w1.alloc (.cells (ints [n, s, t, (xs.length : Int)]).toArray 3)) := (Below.refl _ _).alloc (Nat.le_refl _) _
  have h1w := h1.below hb2 (by omega)
  have HOWN := Lib.hid hown; clear hown
  have HB2 := Lib.hid hb2; clear hb2
  have H1W := Lib.hid h1w; clear h1w
  clear h1
  go_wp2_with (first | (at_builtin; refine wpList_intsS xs rfl (.tmp 24) (.tmp 26) 22 rfl w1.heap.size 3 Try.infoInt Try.underlying22 _ _ rfl HOWN.out _ _ rfl H1W.out (by simp; omega) (by simp) ?_; intro v3 w3 hown3 hb3; have hb3w := HB2.out.trans (hb3); clear hb3; have k4' : w3.cell? ⟨w.heap.size, 4, none⟩ = some (.slice A2 ms.length c2) := (hb3w.cell hlt0).trans KK4.out; have hs3 := hb3w.size; have hn3 : ([n, s, t, (xs.length : Int)] ++ xs).length ≤ 9 := (by simp; omega); generalize hacc : [n, s, t, (xs.length : Int)] ++ xs = a1 at hown3 hn3; have HA1 := Lib.hid hacc; clear hacc k0 k1 k2 k3 k4 k5 H1W HOWN HB2) | (at_builtin; refine wpList_intsB [(ms.length : Int)] rfl (.tmp 28) (.tmp 32) 22 rfl w1.heap.size 3 Try.infoInt Try.underlying22 _ _ rfl hown3 1 _ rfl (by simp) (by simp; omega) hs3 ?_; intro v4 w4 hown4 hb4; have hb4w := hb3w.trans hb4; clear hb4 hb3w k4'; have k4' : w4.cell? ⟨w.heap.size, 4, none⟩ = some (.slice A2 ms.length c2) := (hb4w.cell hlt0).trans KK4.out; have hs4 := hb4w.size; have hn4 : (a1 ++ [(ms.length : Int)]).length ≤ 10 := (by simp; omega); generalize hacc : a1 ++ [(ms.length : Int)] = a2 at hown4 hn4; have HA2 := Lib.hid hacc; clear hacc hown3 hn3 hs3))
  clear k4'
  go_loopg [4, 6, 8, 37, 48] ms.length (fun k v _ _ i _ wr => EncRel a2 (fun j => Pc.numsIn (ms.take j)) ms.length w1.heap.size w1 k v i wr)
  case atStart => exact ⟨0, a2, rfl, by omega, by omega, hown4, by simp [Pc.numsIn], by omega, hb4w⟩
  case round =>
    clear hb4w hs4 hown4
    obtain ⟨j, acc, rfl, hj, hk, hown, hacc, hal, hb⟩ := hrel
    dsimp only at hacc
    have HK := Lib.hid hk; clear hk
    have hsz := hb.size
    have HACC := Lib.hid hacc; clear hacc
    by_cases hlt : j < ms.length
    · obtain ⟨x, hx⟩ := Pc.get_at hlt
      obtain ⟨g, o, vx, rfl, _, hg, c0, ⟨Ax, cx, rfl, lx, mx, hxa⟩⟩ := (h2.below hb (by omega)).row hx
      have hxl := HQ4.out x (List.mem_of_getElem? hx)
      have hal2 : acc.length ≤ 6000 := by rw [HACC.out]; have := HNI.out j; simp; omega
      have HX := Lib.hid hx; clear hx h2 h3
      unfold maxLen at mx
      go_wp2_with (at_builtin; refine wpList_intsB [(x.length : Int)] rfl (.tmp 41) (.tmp 44) 22 rfl w1.heap.size 3 Try.infoInt Try.underlying22 _ _ rfl hown 1 _ rfl (by simp) (by simp; omega) hsz ?_; intro v5 w5 hown5 hb5; have hb5w := hb.trans hb5; clear hb; have hs5 := hb5w.size)
      replace hxa := hxa.below hb5 (by omega)
      clear hb5 c0 hsz
      obtain ⟨wo, rfl⟩ : ∃ wo : World, wo = w5 := ⟨_, rfl⟩
      go_loopg [4, 8, 48] x.length (fun k v _ i wr => EncRel (acc ++ [(x.length : Int)]) (fun j => Pc.pairs (x.take j)) x.length w1.heap.size wo k v i wr)
      case atStart => exact ⟨0, _, rfl, by omega, by omega, hown5, by simp [Pc.pairs], by simp; omega, Below.refl _ _⟩
      case round =>
        clear hown5
        obtain ⟨j2, acc2, rfl, hj2, hk2, hown2, hacc2, hal3, hb2⟩ := hrel
        dsimp only at hacc2
        have HK2 := Lib.hid hk2; clear hk2
        have HACC2 := Lib.hid hacc2; clear hacc2
        have hs2 := (hb5w.trans hb2).size
        by_cases hlt2 : j2 < x.length
        · obtain ⟨⟨sq, lt⟩, hm⟩ := Pc.get_at hlt2
          obtain ⟨gx, ox, rfl, _, hgx, d0, d1⟩ := (hxa.below hb2 (by omega)).msg hm
          dsimp only at d0 d1
          have HM := Lib.hid hm; clear hm hxa
          have hown3 : OwnInts 3 w1.heap.size (wr.alloc (.cells #[.int .i64 sq, .int .i64 lt] 47)) u4 acc2 := hown2.below ((Below.refl _ _).alloc (Nat.le_refl _) _)
          have HOWN3 := Lib.hid hown3; clear hown3 hown2
          have hal4 : acc2.length ≤ 8000 := by rw [HACC2.out]; have := Pc.pairs_len (x.take j2); have : (x.take j2).length ≤ 500 := (by simp; omega); simp at *; omega
          go_wp2_with (at_builtin; refine wpList_intsB [sq, lt] rfl (.tmp 52) (.tmp 57) 22 rfl w1.heap.size 3 Try.infoInt Try.underlying22 _ _ rfl HOWN3.out 2 _ rfl (by simp) (by simp; omega) (by simp; omega) ?_; intro v6 w6 hown6 hb6; have hb6w := ((Below.refl w1.heap.size wr).alloc (by omega) _).trans hb6; clear hb6)
          go_roundg (x.length - (j2 + 1))
          case rel => exact ⟨j2 + 1, _, by simp, by omega, rfl, hown6, by dsimp only; rw [HACC2.out, Pc.take_next HM.out, Pc.pairs_snoc]; simp, by simp; omega, hb2.trans hb6w⟩
          case measure => have := HK2.out; omega
        · go_wp2_with fail
          go_roundg (ms.length - (j + 1))
          case rel =>
            refine ⟨j + 1, acc2, by simp, by omega, rfl, hown2, ?_, hal3, hb5w.trans hb2⟩
            dsimp only
            rw [HACC2.out, HACC.out, Pc.take_next HX.out, Pc.numsIn_snoc, show x.take j2 = x from List.take_of_length_le (by omega)]
            simp
          case measure => have := HK.out; omega
    · have k5' : wr.cell? ⟨w.heap.size, 5, none⟩ = some (.slice A3 os.length c3) := (hb.cell hlt0).trans KK5.out
      have hal2 : acc.length ≤ 6000 := by rw [HACC.out]; have := HNI.out j; simp; omega
      have ha3 : acc = a2 ++ Pc.numsIn ms := by rw [HACC.out, List.take_of_length_le (by omega)]
      have HA3 := Lib.hid ha3; clear ha3 HACC
      clear h2
      go_wp2_with (at_builtin; refine wpList_intsB [(os.length : Int)] rfl (.tmp 61) (.tmp 65) 22 rfl w1.heap.size 3 Try.infoInt Try.underlying22 _ _ rfl hown 1 _ rfl (by simp) (by simp; omega) hsz ?_; intro v5 w5 hown5 hb5; have hb5w := hb.trans hb5; clear hb k5'; have k5' : w5.cell? ⟨w.heap.size, 5, none⟩ = some (.slice A3 os.length c3) := (hb5w.cell hlt0).trans KK5.out; have hs5 := hb5w.size)
      have hal5 : (acc ++ [(os.length : Int)]).length ≤ 6001 := by simp; omega
      generalize hacc5 : acc ++ [(os.length : Int)] = a5 at hown5 hal5
      have HA5 := Lib.hid hacc5; clear hacc5
      clear k5' hb5 hsz hlt hj HK hown
      go_loopg [4, 10, 70] os.length (fun k v _ i wr => EncRel a5 (fun j => Pc.numsOut (os.take j)) os.length w1.heap.size w1 k v i wr)
      case atStart => exact ⟨0, a5, rfl, by omega, by omega, hown5, by simp [Pc.numsOut], by omega, hb5w⟩
      case round =>
        clear hb5w hs5 hown5
        obtain ⟨j, acc6, rfl, hj, hk, hown, hacc, hal, hb⟩ := hrel
        dsimp only at hacc
        have HK := Lib.hid hk; clear hk
        have hsz := hb.size
        have HACC := Lib.hid hacc; clear hacc
        by_cases hlt : j < os.length
        · obtain ⟨x, hx⟩ := Pc.get_at hlt
          obtain ⟨g, o, vx, rfl, _, hg, c0, ⟨Ax, cx, rfl, lx, mx, hxa⟩⟩ := (h3.below hb (by omega)).row hx
          have hxl := HQ5.out x (List.mem_of_getElem? hx)
          have hal6 : acc6.length ≤ 8510 := by rw [HACC.out]; have := HNO.out j; simp; omega
          have HX := Lib.hid hx; clear hx h3
          unfold maxLen at mx
          go_wp2_with (first | (at_builtin; refine wpList_intsB [(x.length : Int)] rfl (.tmp 74) (.tmp 77) 22 rfl w1.heap.size 3 Try.infoInt Try.underlying22 _ _ rfl hown 1 _ rfl (by simp) (by simp; omega) hsz ?_; intro v7 w7 hown7 hb7; have hxa7 := hxa.below hb7 (by omega); have hb7w := hb.trans hb7; have hs7 := hb7w.size; clear hb hxa hb7) | (at_builtin; refine wpList_intsS x rfl (.tmp 79) (.tmp 80) 22 rfl w1.heap.size 3 Try.infoInt Try.underlying22 _ _ rfl hown7 _ _ rfl hxa7 (by simp; omega) hs7 ?_; intro v8 w8 hown8 hb8))
          go_roundg (os.length - (j + 1))
          case rel =>
            refine ⟨j + 1, _, by simp, by omega, rfl, hown8, by dsimp only; rw [HACC.out, Pc.take_next HX.out, Pc.numsOut_snoc]; simp, ?_, hb7w.trans hb8⟩
            rw [HACC.out]; have := HNO.out j; simp; omega
          case measure => have := HK.out; omega
        · have hin := IsInts.of_slice (hown.slice (lo := 0) (Nat.zero_le _) (Nat.le_refl _))
          have hfin : acc6 = nn := by rw [HACC.out, List.take_of_length_le (by omega), ← HA5.out, HA3.out, ← HA2.out, ← HA1.out, HN.out]
          have HFIN := Lib.hid hfin; clear hfin
          go_wp2_with fail
          refine (puts_any _ _ _ hin (by omega)).mono ?_
          rintro e w9 ⟨rfl, hb9⟩
          go_wp2_with fail
          go_ret2
          exact ⟨by rw [HFIN.out]; rfl, (HB0.out.trans (hb.mono (by omega))).trans (hb9.mono (by omega))⟩

theorem encode_any (v : Value) (p : Pc.Piece) (w : World) (h : PieceIs false w 0 w.heap.size v p) : Calls Try.prog 16 #[v] w
    fun x w' => x = .returned (.tuple #[.string ⟨(Pc.enc p).toArray⟩, .int .i64 (Pc.err p)]) ∧ Below w.heap.size w w' := by
  unfold Pc.enc Pc.err
  cases hh : Pc.right p
  · have hb0 : Below w.heap.size w (w.alloc (.cells v.cells 26)) := (Below.refl _ _).alloc (Nat.le_refl _) _
    have hR := right_any v p _ ((h.below hb0 (Nat.le_refl _)).widen (Nat.le_refl _) hb0.size)
    rw [hh] at hR
    obtain ⟨a, b, c, rfl, h1, h2, h3⟩ := h
    have HR := Lib.hid hR; clear hR hh h1 h2 h3
    go_enter Try.func16, Try.ntmps16
    go_wp2_with fail
    refine (HR.out).mono ?_
    rintro e w1 ⟨rfl, hb1⟩
    go_wp2_with fail
    go_ret2
    exact ⟨rfl, hb0.trans (hb1.mono (by simp))⟩
  · exact encode_yes v p w h hh
end Go.Proofs.Ytdfgnmdofjhnkaa
