/- The document's Numbers and Encode, for pieces. -/
import Derived.Test.YtdfgnmdofjhnkaaPG
import Derived.Test.YtdfgnmdofjhnkaaPH
import Derived.Test.YtdfgnmdofjhnkaaA7
namespace Go.Proofs.Ytdfgnmdofjhnkaa
open Go.RowKit

set_option maxRecDepth 100000 in
set_option maxHeartbeats 8000000 in
theorem numbers_any (v : Value) (p : Pc.Piece) (w : World) (h : PieceIs false w 0 w.heap.size v p) (hsm : Pc.small p) : Calls Try.prog 29 #[v] w
    fun x w' => (∃ v', x = .returned v' ∧ OwnInts 3 w.heap.size w' v' (Pc.nums p)) ∧ Below w.heap.size w w' := by
  obtain ⟨n, s, t, xs, ms, os⟩ := p
  obtain ⟨a, b, c, rfl, ⟨A1, c1, rfl, l1, m1, h1⟩, ⟨A2, c2, rfl, l2, m2, h2⟩, ⟨A3, c3, rfl, l3, m3, h3⟩⟩ := h
  dsimp only at l1 l2 l3 h1 h2 h3
  have hn : Pc.nums ⟨n, s, t, xs, ms, os⟩ = ([n, s, t, (xs.length : Int)] ++ xs ++ [(ms.length : Int)] ++ Pc.numsIn ms) ++ [(os.length : Int)] ++ Pc.numsOut os := rfl
  generalize Pc.nums ⟨n, s, t, xs, ms, os⟩ = nn at hn ⊢
  have HN := Lib.hid hn; clear hn
  have hb0 : Below w.heap.size w (w.alloc (.cells #[.int .i64 n, .int .i64 s, .int .i64 t, .slice A1 xs.length c1, .slice A2 ms.length c2, .slice A3 os.length c3] 32)) := (Below.refl _ _).alloc (Nat.le_refl _) _
  unfold maxLen at m1 m2 m3
  obtain ⟨q1, q2, q3, q4, q5⟩ := hsm
  dsimp only at q1 q2 q3 q4 q5
  have hni : ∀ j, (Pc.numsIn (ms.take j)).length ≤ 5005 := fun j => by
    have := Pc.numsIn_len (ms.take j) (fun x hx => q4 x (List.mem_of_mem_take hx))
    have : (ms.take j).length ≤ 5 := by simp; omega
    omega
  have hno : ∀ j, (Pc.numsOut (os.take j)).length ≤ 2505 := fun j => by
    have := Pc.numsOut_len (os.take j) (fun x hx => q5 x (List.mem_of_mem_take hx))
    have : (os.take j).length ≤ 5 := by simp; omega
    omega
  have HNI := Lib.hid hni; clear hni
  have HNO := Lib.hid hno; clear hno
  have HQ4 := Lib.hid q4; clear q4
  have HQ5 := Lib.hid q5; clear q5
  obtain ⟨W, hW⟩ : ∃ W, W = w.alloc (.cells #[.int .i64 n, .int .i64 s, .int .i64 t, .slice A1 xs.length c1, .slice A2 ms.length c2, .slice A3 os.length c3] 32) := ⟨_, rfl⟩
  have hsz : W.heap.size = w.heap.size + 1 := by rw [hW]; simp
  have k0 : W.cell? ⟨w.heap.size, 0, none⟩ = some (.int .i64 n) := by rw [hW]; simp [go_sem]
  have k1 : W.cell? ⟨w.heap.size, 1, none⟩ = some (.int .i64 s) := by rw [hW]; simp [go_sem]
  have k2 : W.cell? ⟨w.heap.size, 2, none⟩ = some (.int .i64 t) := by rw [hW]; simp [go_sem]
  have k3 : W.cell? ⟨w.heap.size, 3, none⟩ = some (.slice A1 xs.length c1) := by rw [hW]; simp [go_sem]
  have k4 : W.cell? ⟨w.heap.size, 4, none⟩ = some (.slice A2 ms.length c2) := by rw [hW]; simp [go_sem]
  have k5 : W.cell? ⟨w.heap.size, 5, none⟩ = some (.slice A3 os.length c3) := by rw [hW]; simp [go_sem]
  rw [← hW] at hb0
  have hlt0 : w.heap.size < W.heap.size := by omega
  replace h1 := h1.below hb0 (Nat.le_refl _)
  replace h2 := h2.below hb0 (Nat.le_refl _)
  replace h3 := h3.below hb0 (Nat.le_refl _)
  have HB0 := Lib.hid hb0; clear hb0
  have KK4 := Lib.hid k4; have KK5 := Lib.hid k5
  have hown : OwnInts 3 W.heap.size (W.alloc (.cells (ints [n, s, t, (xs.length : Int)]).toArray 3)) (.slice (some ⟨W.heap.size, 0, none⟩) 4 4) [n, s, t, (xs.length : Int)] :=
    OwnInts.lit _ _ _ (Nat.le_refl _) (by simp [maxLen])
  have hb2 : Below W.heap.size W (W.alloc (.cells (ints [n, s, t, (xs.length : Int)]).toArray 3)) := (Below.refl _ _).alloc (Nat.le_refl _) _
  have h1w := h1.below hb2 (by omega)
  have HB2 := Lib.hid hb2; clear hb2
  have HSZ := Lib.hid hsz; clear hsz
  rw [hW] at hown h1w
  simp only [World.size_alloc] at hown
  have HOWN := Lib.hid hown; clear hown
  have H1W := Lib.hid h1w; clear h1w
  have HW := Lib.hid hW; clear hW
  clear h1 k0 k1 k2 k3 k4 k5
  go_enter Try.func29, Try.ntmps29
  go_wp2_with (first | (at_builtin; refine wpList_intsS xs rfl (.tmp 17) (.tmp 19) 22 rfl _ 3 Try.infoInt Try.underlying22 _ _ rfl HOWN.out _ _ rfl H1W.out (by simp; omega) (by simp) ?_; intro v3 w3 hown3 hb3; rw [← HSZ.out] at hown3; rw [← HW.out, ← HSZ.out] at hb3; have hb3w := HB2.out.trans hb3; clear hb3; have k4' := (hb3w.cell (p := ⟨w.heap.size, 4, none⟩) hlt0).trans KK4.out; have hs3 := hb3w.size; have hn3 : ([n, s, t, (xs.length : Int)] ++ xs).length ≤ 9 := (by simp; omega); generalize hacc : [n, s, t, (xs.length : Int)] ++ xs = a1 at hown3 hn3; have HA1 := Lib.hid hacc; clear hacc H1W HOWN HB2) | (at_builtin; refine wpList_intsB [(ms.length : Int)] rfl (.tmp 21) (.tmp 25) 22 rfl W.heap.size 3 Try.infoInt Try.underlying22 _ _ rfl hown3 1 _ rfl (by simp) (by simp; omega) hs3 ?_; intro v4 w4 hown4 hb4; have hb4w := hb3w.trans hb4; clear hb4 hb3w k4'; have hs4 := hb4w.size; have hn4 : (a1 ++ [(ms.length : Int)]).length ≤ 10 := (by simp; omega); generalize hacc : a1 ++ [(ms.length : Int)] = a2 at hown4 hn4; have HA2 := Lib.hid hacc; clear hacc hown3 hn3 hs3))
  go_loopg [3, 4, 5] ms.length (fun k v i _ wr => EncRel a2 (fun j => Pc.numsIn (ms.take j)) ms.length W.heap.size W k v i wr)
  case atStart => exact ⟨0, a2, rfl, by omega, by omega, hown4, by simp [Pc.numsIn], by omega, hb4w⟩
  case round =>
    clear hb4w hs4 hown4
    obtain ⟨j, acc, rfl, hj, hk, hown, hacc, hal, hb⟩ := hrel
    dsimp only at hacc
    have HK := Lib.hid hk; clear hk
    have hsz := hb.size
    have HACC := Lib.hid hacc; clear hacc
    have k4' := (hb.cell (p := ⟨w.heap.size, 4, none⟩) hlt0).trans KK4.out
    by_cases hlt : j < ms.length
    · obtain ⟨x, hx⟩ := Pc.get_at hlt
      obtain ⟨g, o, vx, rfl, _, hg, c0, ⟨Ax, cx, rfl, lx, mx, hxa⟩⟩ := (h2.below hb (by omega)).row hx
      have hg1 : g < W.heap.size := by omega
      have hxl := HQ4.out x (List.mem_of_getElem? hx)
      have hal2 : acc.length ≤ 6000 := by rw [HACC.out]; have := HNI.out j; simp; omega
      have HX := Lib.hid hx; clear hx h2 h3
      have CC0 := Lib.hid c0
      unfold maxLen at mx
      go_wp2_with (at_builtin; refine wpList_intsB [(x.length : Int)] rfl (.tmp 34) (.tmp 41) 22 rfl W.heap.size 3 Try.infoInt Try.underlying22 _ _ rfl hown 1 _ rfl (by simp) (by simp; omega) hsz ?_; intro v5 w5 hown5 hb5; have hb5w := hb.trans hb5; clear k4'; have k4' := (hb5w.cell (p := ⟨w.heap.size, 4, none⟩) hlt0).trans KK4.out; clear c0; have c0 : w5.cell? ⟨g, o + j, none⟩ = some (.slice Ax x.length cx) := (hb5.cell hg1).trans CC0.out; have hs5 := hb5w.size)
      replace hxa := hxa.below hb5 (by omega)
      clear hsz k4' CC0 hb hb5
      have CC0 := Lib.hid c0; clear c0
      obtain ⟨wo, rfl⟩ : ∃ wo : World, wo = w5 := ⟨_, rfl⟩
      go_loopg [3, 5] x.length (fun k v i wr => EncRel (acc ++ [(x.length : Int)]) (fun j => Pc.pairs (x.take j)) x.length W.heap.size wo k v i wr)
      case atStart => exact ⟨0, _, rfl, by omega, by omega, hown5, by simp [Pc.pairs], by simp; omega, Below.refl _ _⟩
      case round =>
        clear hown5
        obtain ⟨j2, acc2, rfl, hj2, hk2, hown2, hacc2, hal3, hb2⟩ := hrel
        dsimp only at hacc2
        have HK2 := Lib.hid hk2; clear hk2
        have HACC2 := Lib.hid hacc2; clear hacc2
        have hbw2 := hb5w.trans hb2
        have hs2 := hbw2.size
        have k4' := (hbw2.cell (p := ⟨w.heap.size, 4, none⟩) hlt0).trans KK4.out
        have c0 : wr.cell? ⟨g, o + j, none⟩ = some (.slice Ax x.length cx) := (hb2.cell hg1).trans CC0.out
        by_cases hlt2 : j2 < x.length
        · obtain ⟨⟨sq, lt⟩, hm⟩ := Pc.get_at hlt2
          obtain ⟨gx, ox, rfl, _, hgx, d0, d1⟩ := (hxa.below hb2 (by omega)).msg hm
          dsimp only at d0 d1
          have HM := Lib.hid hm; clear hm hxa
          have hgx1 : gx < W.heap.size := by omega
          have DD1 := Lib.hid d1
          have CC1 := Lib.hid c0
          have hal4 : acc2.length ≤ 8000 := by rw [HACC2.out]; have := Pc.pairs_len (x.take j2); have : (x.take j2).length ≤ 500 := (by simp; omega); simp at *; omega
          go_wp2_with (first | (at_builtin; refine wpList_intsB [sq] rfl (.tmp 53) (.tmp 63) 22 rfl W.heap.size 3 Try.infoInt Try.underlying22 _ _ rfl hown2 1 _ rfl (by simp) (by simp; omega) hs2 ?_; intro v6 w6 hown6 hb6; have hb6w := hb2.trans hb6; clear k4' c0 d0 d1; have k4' := ((hb5w.trans hb6w).cell (p := ⟨w.heap.size, 4, none⟩) hlt0).trans KK4.out; have c0 : w6.cell? ⟨g, o + j, none⟩ = some (.slice (some ⟨gx, ox, none⟩) x.length cx) := (hb6.cell hg1).trans CC1.out; have d1 : w6.cell? ⟨gx, ox + j2 * 2 + 1, none⟩ = some (.int .i64 lt) := (hb6.cell hgx1).trans DD1.out; have hs6 := (hb5w.trans hb6w).size) | (at_builtin; refine wpList_intsB [lt] rfl (.tmp 65) (.tmp 75) 22 rfl W.heap.size 3 Try.infoInt Try.underlying22 _ _ rfl hown6 1 _ rfl (by simp) (by simp; omega) hs6 ?_; intro v7 w7 hown7 hb7))
          go_roundg (x.length - (j2 + 1))
          case rel => exact ⟨j2 + 1, _, by simp, by omega, rfl, hown7, by dsimp only; rw [HACC2.out, Pc.take_next HM.out, Pc.pairs_snoc]; simp, by simp; omega, hb6w.trans hb7⟩
          case measure => have := HK2.out; omega
        · go_wp2_with fail
          go_roundg (ms.length - (j + 1))
          case rel =>
            refine ⟨j + 1, acc2, by simp, by omega, rfl, hown2, ?_, hal3, hbw2⟩
            dsimp only
            rw [HACC2.out, HACC.out, Pc.take_next HX.out, Pc.numsIn_snoc, show x.take j2 = x from List.take_of_length_le (by omega)]
            simp
          case measure => have := HK.out; omega
    · have k5' := (hb.cell (p := ⟨w.heap.size, 5, none⟩) hlt0).trans KK5.out
      have hal2 : acc.length ≤ 6000 := by rw [HACC.out]; have := HNI.out j; simp; omega
      have ha3 : acc = a2 ++ Pc.numsIn ms := by rw [HACC.out, List.take_of_length_le (by omega)]
      have HA3 := Lib.hid ha3; clear ha3 HACC
      clear h2
      go_wp2_with (at_builtin; refine wpList_intsB [(os.length : Int)] rfl (.tmp 77) (.tmp 81) 22 rfl W.heap.size 3 Try.infoInt Try.underlying22 _ _ rfl hown 1 _ rfl (by simp) (by simp; omega) hsz ?_; intro v5 w5 hown5 hb5; have hb5w := hb.trans hb5; clear hb k5'; have k5' := (hb5w.cell (p := ⟨w.heap.size, 5, none⟩) hlt0).trans KK5.out; have hs5 := hb5w.size)
      have hal5 : (acc ++ [(os.length : Int)]).length ≤ 6001 := by simp; omega
      generalize hacc5 : acc ++ [(os.length : Int)] = a5 at hown5 hal5
      have HA5 := Lib.hid hacc5; clear hacc5
      clear k5' hb5 hsz hlt hj HK hown
      go_loopg [3, 6] os.length (fun k v i wr => EncRel a5 (fun j => Pc.numsOut (os.take j)) os.length W.heap.size W k v i wr)
      case atStart => exact ⟨0, a5, rfl, by omega, by omega, hown5, by simp [Pc.numsOut], by omega, hb5w⟩
      case round =>
        clear hb5w hs5 hown5
        obtain ⟨j, acc6, rfl, hj, hk, hown, hacc, hal, hb⟩ := hrel
        dsimp only at hacc
        have HK := Lib.hid hk; clear hk
        have hsz := hb.size
        have HACC := Lib.hid hacc; clear hacc
        have k5' := (hb.cell (p := ⟨w.heap.size, 5, none⟩) hlt0).trans KK5.out
        by_cases hlt : j < os.length
        · obtain ⟨x, hx⟩ := Pc.get_at hlt
          obtain ⟨g, o, vx, rfl, _, hg, c0, ⟨Ax, cx, rfl, lx, mx, hxa⟩⟩ := (h3.below hb (by omega)).row hx
          have hg1 : g < W.heap.size := by omega
          have hxl := HQ5.out x (List.mem_of_getElem? hx)
          have hal6 : acc6.length ≤ 8510 := by rw [HACC.out]; have := HNO.out j; simp; omega
          have HX := Lib.hid hx; clear hx h3
          have CC0 := Lib.hid c0
          unfold maxLen at mx
          go_wp2_with (first | (at_builtin; refine wpList_intsB [(x.length : Int)] rfl (.tmp 90) (.tmp 97) 22 rfl W.heap.size 3 Try.infoInt Try.underlying22 _ _ rfl hown 1 _ rfl (by simp) (by simp; omega) hsz ?_; intro v7 w7 hown7 hb7; have hxa7 := hxa.below hb7 (by omega); have hb7w := hb.trans hb7; have hs7 := hb7w.size; clear hb hxa k5' c0; have k5' := (hb7w.cell (p := ⟨w.heap.size, 5, none⟩) hlt0).trans KK5.out; have c0 : w7.cell? ⟨g, o + j, none⟩ = some (.slice Ax x.length cx) := (hb7.cell hg1).trans CC0.out) | (at_builtin; refine wpList_intsS x rfl (.tmp 99) (.tmp 104) 22 rfl W.heap.size 3 Try.infoInt Try.underlying22 _ _ rfl hown7 _ _ rfl hxa7 (by simp; omega) hs7 ?_; intro v8 w8 hown8 hb8))
          go_roundg (os.length - (j + 1))
          case rel =>
            refine ⟨j + 1, _, by simp, by omega, rfl, hown8, by dsimp only; rw [HACC.out, Pc.take_next HX.out, Pc.numsOut_snoc]; simp, ?_, hb7w.trans hb8⟩
            rw [HACC.out]; have := HNO.out j; simp; omega
          case measure => have := HK.out; omega
        · have hfin : acc6 = nn := by rw [HACC.out, List.take_of_length_le (by omega), ← HA5.out, HA3.out, ← HA2.out, ← HA1.out, HN.out]
          have HFIN := Lib.hid hfin; clear hfin
          go_wp2_with fail
          go_ret
          refine ⟨⟨_, rfl, ?_⟩, HB0.out.trans (hb.mono (by omega))⟩
          rw [← HFIN.out]
          exact own_base hown (by omega)

theorem rencode_any (v : Value) (p : Pc.Piece) (w : World) (h : PieceIs false w 0 w.heap.size v p) : Calls Try.prog 17 #[v] w
    fun x w' => x = .returned (.tuple #[.string ⟨(Pc.enc p).toArray⟩, .int .i64 (Pc.err p)]) ∧ Below w.heap.size w w' := by
  unfold Pc.enc Pc.err
  have hb0 : Below w.heap.size w (w.alloc (.cells v.cells 32)) := (Below.refl _ _).alloc (Nat.le_refl _) _
  have hp0 := (h.below hb0 (Nat.le_refl _))
  have hR := rright_any v p _ (hp0.widen (Nat.le_refl _) hb0.size)
  cases hh : Pc.right p
  · rw [hh] at hR
    obtain ⟨a, b, c, rfl, h1, h2, h3⟩ := h
    have HR := Lib.hid hR; clear hR hh h1 h2 h3 hp0
    go_enter Try.func17, Try.ntmps17
    go_wp2_with fail
    refine (HR.out).mono ?_
    rintro e w1 ⟨rfl, hb1⟩
    go_wp2_with fail
    go_ret2
    exact ⟨rfl, hb0.trans (hb1.mono (by simp))⟩
  · rw [hh] at hR
    have hsm := Pc.small_of hh
    have hl := Pc.nums_len hsm
    have hN := fun w h => numbers_any v p w h hsm
    have HP0 := Lib.hid hp0; clear hp0
    generalize Pc.nums p = nn at hl hN ⊢
    have HN := Lib.hid hN; clear hN
    have HR := Lib.hid hR; clear hR hh
    obtain ⟨a, b, c, rfl, h1, h2, h3⟩ := h
    clear h1 h2 h3 hsm
    dsimp only [Value.cells] at hb0
    go_enter Try.func17, Try.ntmps17
    go_wp2_with fail
    refine (HR.out).mono ?_
    rintro e w1 ⟨rfl, hb1⟩
    have hp1 := (HP0.out.below hb1 (by simp)).widen (Nat.le_refl 0) (show w.heap.size ≤ w1.heap.size by have := hb1.size; simp at this; omega)
    replace hb1 := hb1.mono (B' := w.heap.size + 1) (by simp)
    have k0 := (hb1.cell (p := ⟨w.heap.size, 0, none⟩) (by simp)).trans (World.cell?_alloc_new w _ _ _)
    have k1 := (hb1.cell (p := ⟨w.heap.size, 1, none⟩) (by simp)).trans (World.cell?_alloc_new w _ _ _)
    have k2 := (hb1.cell (p := ⟨w.heap.size, 2, none⟩) (by simp)).trans (World.cell?_alloc_new w _ _ _)
    have k3 := (hb1.cell (p := ⟨w.heap.size, 3, none⟩) (by simp)).trans (World.cell?_alloc_new w _ _ _)
    have k4 := (hb1.cell (p := ⟨w.heap.size, 4, none⟩) (by simp)).trans (World.cell?_alloc_new w _ _ _)
    have k5 := (hb1.cell (p := ⟨w.heap.size, 5, none⟩) (by simp)).trans (World.cell?_alloc_new w _ _ _)
    have HP1 := Lib.hid hp1; clear hp1
    simp only [List.getElem?_toArray, List.getElem?_cons_zero, List.getElem?_cons_succ, Value.cells] at k0 k1 k2 k3 k4 k5
    go_wp2_with fail
    refine (HN.out _ HP1.out).mono ?_
    rintro e w2 ⟨⟨v2, rfl, hown⟩, hb2⟩
    have hin := IsInts.of_slice (hown.slice (lo := 0) (Nat.zero_le _) (Nat.le_refl _))
    clear k0 k1 k2 k3 k4 k5
    go_wp2_with fail
    refine (rputs_any _ _ _ hin (by omega)).mono ?_
    rintro e w3 ⟨rfl, hb3⟩
    go_wp2_with fail
    go_ret2
    exact ⟨rfl, (((hb0.trans (hb1.mono (by omega))).trans (hb2.mono (by have := hb1.size; simp at this; omega))).trans (hb3.mono (by have := hb1.size; have := hb2.size; simp at *; omega)))⟩
end Go.Proofs.Ytdfgnmdofjhnkaa
