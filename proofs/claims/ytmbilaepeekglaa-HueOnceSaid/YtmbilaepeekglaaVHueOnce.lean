/- HueOnce: the walk. -/
import Derived.Test.YtmbilaepeekglaaHY
namespace Go.Proofs.Ytmbilaepeekglaa.hueOnce
open Go.RowKit Go.Maps Go.Proofs.Ytmbilaepeekglaa

set_option maxRecDepth 100000 in
set_option maxHeartbeats 8000000 in
theorem walk (v1 : Value) (xs1 : List Int) (w : World) (h1 : SliceIs Rep.int false w 0 w.heap.size v1 xs1) :
    Calls Try.prog 4 #[v1] w fun x w' => x = .returned (.bool true) ∧ Below w.heap.size w w' := by
  obtain ⟨A1, c1, rfl, n1, m1, hA⟩ := h1
  have HA := Lib.hid hA; clear hA
  go_enter Try.func4, Try.ntmps4
  try simp only [List.append_eq, List.cons_append, List.nil_append]
  go_wp2_with fail
  refine name_wp fun W0 hW0 => ?_
  have bx0 : Box W0 (w.heap.size) #[.int .i64 0, .int .i64 0, .int .i64 0, .int .i64 0, .slice none 0 0, .slice none 0 0, .slice none 0 0] 32 := hW0 ▸ ((Box.new' #[.int .i64 0, .int .i64 0, .int .i64 0, .int .i64 0, .slice none 0 0, .slice none 0 0, .slice none 0 0] 32 (by simp)).alloc _)
  have bx1 : Box W0 (w.heap.size + 1) #[.int .i64 0, .int .i64 0, .int .i64 0, .slice none 0 0, .slice none 0 0] 28 := hW0 ▸ (Box.new' #[.int .i64 0, .int .i64 0, .int .i64 0, .slice none 0 0, .slice none 0 0] 28 (by simp))
  have hB : Below w.heap.size w W0 := hW0 ▸ ((Below.refl _ _).alloc (by first | (simp; done) | (simp; omega)) _).alloc (by first | (simp; done) | (simp; omega)) _
  have hu : HBox 32 W0 w.heap.size 0 Pc.zero := ⟨none, none, none, 0, 0, 0, bx0, HueIs.of (p := Pc.zero) ⟨_, _, _, rfl, SliceIs.none_, SliceIs.none_, SliceIs.none_⟩⟩
  clear bx0 hW0
  go_loopg [4, 5, 7] xs1.length (fun k a b i wr => ∃ (j : Nat) (e st : Int) (p : Pc.Piece), a = .int .i64 e ∧ b = .int .i64 p.steps ∧ i = .int .i64 (j : Int) ∧ j ≤ xs1.length ∧ k = xs1.length - j ∧ Pc.Bare p ∧ HBox 32 wr w.heap.size e p ∧ Box wr (w.heap.size + 1) #[.int .i64 0, .int .i64 0, .int .i64 st, .slice none 0 0, .slice none 0 0] 28 ∧ Below w.heap.size w wr)
  case atStart => exact ⟨0, 0, 0, Pc.zero, rfl, rfl, rfl, by omega, by omega, ⟨rfl, rfl, rfl⟩, hu, bx1, hB⟩
  case round =>
    clear hu bx1 hB
    obtain ⟨j, e, st, p, rfl, rfl, rfl, hj, hk, hp, hu, bh, hB⟩ := hrel
    have HK := Lib.hid hk; clear hk
    by_cases hlt : j < xs1.length
    ·
      by_cases h40 : (j : Int) < 40
      ·
        obtain ⟨x, hx⟩ := Pc.get_at hlt
        obtain ⟨g0, o0, rfl, _, _, _⟩ := HA.out.int hx
        have HX := Lib.hid hx; clear hx
        obtain ⟨f0, f1, f2, f3, f4⟩ := five_free bh
        obtain ⟨k0, k1, k2, k3, k4⟩ := five_cells bh
        go_upto_region 7 with fail
        clear f0 f1 f2 f3 f4 k0 k1 k2 k3 k4
        refine name_wp fun W1 hW1 => ?_
        have bq : Box W1 (w.heap.size + 1) #[.int .i64 0, .int .i64 0, .int .i64 ((j : Int) + 1), .slice none 0 0, .slice none 0 0] 28 := by rw [← hW1]; exact blk_set bh 2 _
        have hq : HBox 32 W1 w.heap.size e p := by rw [← hW1]; exact hu.move hp (heap_setCell_other _ _ _ _ (Nat.ne_of_lt (Nat.lt_succ_self _)))
        have hQ : Below w.heap.size w W1 := by rw [← hW1]; exact hB.setCell (Nat.le_succ _) _
        clear hu bh hB hW1
        have bh := bq; have hB := hQ; clear bq hQ
        have hst : HostIs false W1 0 W1.heap.size (.agg #[.int .i64 0, .int .i64 0, .int .i64 ((j : Int) + 1), .slice none 0 0, .slice none 0 0]) ⟨0, 0, (j : Int) + 1, [], []⟩ := ⟨_, _, rfl, SliceIs.none_, SliceIs.none_⟩
        have hs : Hu.Host.sized ⟨0, 0, (j : Int) + 1, [], []⟩ := ⟨by simp, by simp, by simp, by simp⟩
        obtain ⟨X3, X4, X5, x3, x4, x5, bx3, hv⟩ := hq
        have hold : Old W1 W1.heap.size _ _ _ := ⟨hv, Nat.le_refl _⟩
        obtain ⟨EE, hEE⟩ : ∃ e', Hu.E e x = e' := ⟨_, rfl⟩
        obtain ⟨PP, hPP⟩ : ∃ e', Hu.T e x ⟨0, 0, (j : Int) + 1, [], []⟩ p = e' := ⟨_, rfl⟩
        obtain ⟨bb, hbb⟩ : ∃ b, decide (e < x) = b := ⟨_, rfl⟩
        have HBB := Lib.hid hbb; have HEE := Lib.hid hEE; have HPP := Lib.hid hPP; clear hbb hEE hPP
        have HBX := Lib.hid bx3; have HBH := Lib.hid bh; have HVV := Lib.hid hv; clear hv
        go_cut [8, 9] from 12 to 69 (fun p q wx => TurnPost 32 W1 EE PP bb p q wx)
        case first =>
          have hV := Below.refl W1.heap.size W1
          replace hold := hold.next ((Below.refl _ _).drew)
          replace hst := hst.next ((Below.refl _ _).drew)
          replace bh := bh.next ((Below.refl _ _).drew)
          replace bx3 := bx3.next ((Below.refl _ _).drew)
          replace hV := hV.drew
          refine region_go 64 (by kernel_rfl) ?_
          have cx := cell_at HA.out (hB.trans (hV.mono hB.size)) HX.out
          obtain ⟨c0, c1, c2, c3, c4, c5, c6⟩ := seven_cells bx3
          obtain ⟨d0, d1, d2, d3, d4⟩ := five_cells bh
          refine wpAny_go 64 0 [0, 1, 2, 3, 4, 5] 63 7 (by kernel_rfl) (by kernel_rfl) (fun _ _ _ _ _ h => h) (by kernel_rfl) (by rfl) (by rfl) (by kernel_rfl) ?_
          simp only [List.map_cons, List.map_nil, List.getD_cons_succ, List.getD_cons_zero]
          go_wp2_with fail
          change wpAnyM _ _ _ _ _ _ _ _ _ _
          clear c0 c1 c2 c3 c4 c5 c6
          clear d0 d1 d2 d3 d4
          refine name_any fun y0 hy => ?_
          have s0 : W1.heap.size ≤ y0.heap.size := by rw [← hy]; simp
          rw [hy] at hold
          rw [hy] at hst
          rw [hy] at hV
          have hE : Ext W1.drew y0 := by rw [hy]; exact Ext.refl _
          clear hy bh bx3 cx
          refine wpAny_twoM 6 10 127 1087 (by kernel_rfl) (by kernel_rfl) (of_decide_eq_true (by kernel_rfl)) (of_decide_eq_true (by kernel_rfl)) (by rfl) (by rfl) ?_ ?_
          ·
            simp only [List.getD_cons_succ, List.getD_cons_zero]
            go_wp2_with fail
            refine (turnq2 hold hst hs).mono ?_
            rintro e y1 ⟨⟨v, rfl, hn⟩, hh⟩
            have s1 := hh.size
            replace hold := hold.next hh
            replace hst := hst.next hh
            replace hE := hE.trans (Ext.below hh (Nat.le_refl _))
            replace hV := hV.trans (hh.mono hV.size)
            clear hh
            rw [HEE.out, HPP.out] at hn
            rw [HBB.out]
            obtain ⟨A3, A4, A5, a3, a4, a5, rfl⟩ := hn.form
            go_wp2_with fail
            refine ⟨fun _ => hE, ?_⟩
            refine wpAny_go 64 127 [7, 8] 511 4 (by kernel_rfl) (by kernel_rfl) (fun _ _ _ _ _ h => h) (by kernel_rfl) (by rfl) (by rfl) (by kernel_rfl) ?_
            simp only [List.map_cons, List.map_nil, List.getD_cons_succ, List.getD_cons_zero]
            go_wp2_with fail
            change wpAnyM _ _ _ _ _ _ _ _ _ _
            refine wpAny_takeM 9 rfl (by kernel_rfl) (by rfl : 511 ||| 2 ^ 9 = 1023) (by kernel_rfl) (by kernel_rfl) (by kernel_rfl) (by kernel_rfl) (fun _ _ _ h => h) (.inl ⟨by rfl, fun w => by (go_simp; try with_reducible rfl)⟩) ?_
            refine wpAny_go 64 1023 [10, 11, 12] 8191 0 (by kernel_rfl) (by kernel_rfl) (fun _ _ _ _ _ h => h) (by kernel_rfl) (by rfl) (by rfl) (by kernel_rfl) ?_
            simp only [List.map_cons, List.map_nil, List.getD_cons_succ, List.getD_cons_zero]
            go_wp2_with fail
            change wpAnyM _ _ _ _ _ _ _ _ _ _
            refine wpAny_endM (by kernel_rfl) (by kernel_rfl) ?_
            go_wp2_with fail
            go_meet
            exact TurnPost.late hn hV
          ·
            simp only [List.getD_cons_succ, List.getD_cons_zero]
            go_wp2_with fail
            refine ⟨fun h => absurd h (by decide), name_any fun y1 hw => ?_⟩
            have hg : Box y1 y0.heap.size #[.int .i64 0, .int .i64 0, .int .i64 0, .int .i64 0, .slice none 0 0, .slice none 0 0, .slice none 0 0] 32 := hw ▸ Box.new _ _ _
            have hh : Below y0.heap.size y0 y1 := hw ▸ ((Below.refl _ _).alloc (Nat.le_refl _) _)
            have s1 : y0.heap.size < y1.heap.size := hw ▸ (by simp)
            clear hw
            replace hold := hold.next hh
            replace hst := hst.next hh
            replace hE := hE.trans (Ext.below hh (Nat.le_refl _))
            replace hV := hV.trans (hh.mono hV.size)
            clear hh
            refine wpAny_oneM 6 1151 (by kernel_rfl) (by kernel_rfl) (of_decide_eq_true (by kernel_rfl)) (by rfl) ?_
            simp only [List.getD_cons_succ, List.getD_cons_zero]
            go_wp2_with fail
            refine (turnq2 hold hst hs).mono ?_
            rintro e y2 ⟨⟨v, rfl, hn⟩, hh⟩
            have s2 := hh.size
            replace hold := hold.next hh
            replace hst := hst.next hh
            replace hg := hg.next hh
            replace hE := hE.trans (Ext.below hh (Nat.le_refl _))
            replace hV := hV.trans (hh.mono hV.size)
            clear hh
            rw [HEE.out, HPP.out] at hn
            rw [HBB.out]
            obtain ⟨A3, A4, A5, a3, a4, a5, rfl⟩ := hn.form
            go_wp2_with fail
            refine ⟨fun _ => hE, ?_⟩
            refine wpAny_go 64 1151 [7, 8] 1535 3 (by kernel_rfl) (by kernel_rfl) (fun _ _ _ _ _ h => h) (by kernel_rfl) (by rfl) (by rfl) (by kernel_rfl) ?_
            simp only [List.map_cons, List.map_nil, List.getD_cons_succ, List.getD_cons_zero]
            go_wp2_with fail
            change wpAnyM _ _ _ _ _ _ _ _ _ _
            refine wpAny_takeM 9 rfl (by kernel_rfl) (by rfl : 1535 ||| 2 ^ 9 = 2047) (by kernel_rfl) (by kernel_rfl) (by kernel_rfl) (by kernel_rfl) (fun _ _ _ h => h) (.inl ⟨by rfl, fun w => by (go_simp; try with_reducible rfl)⟩) ?_
            obtain ⟨d0, d1, d2, d3, d4, d5, d6⟩ := seven_cells hg
            obtain ⟨f0, f1, f2, f3, f4, f5, f6⟩ := seven_free hg
            refine wpAny_go 64 2047 [11, 12] 8191 0 (by kernel_rfl) (by kernel_rfl) (fun _ _ _ _ _ h => h) (by kernel_rfl) (by rfl) (by rfl) (by kernel_rfl) ?_
            simp only [List.map_cons, List.map_nil, List.getD_cons_succ, List.getD_cons_zero]
            go_wp2_with fail
            change wpAnyM _ _ _ _ _ _ _ _ _ _
            clear d0 d1 d2 d3 d4 d5 d6 f0 f1 f2 f3 f4 f5 f6
            refine wpAny_endM (by kernel_rfl) (by kernel_rfl) ?_
            go_wp2_with fail
            go_meet
            exact TurnPost.early hn hV hg (by omega) (by omega) (by omega)
        case rest =>
          obtain ⟨g, rfl, rfl, hg1, hnew, hb⟩ := hcut
          obtain ⟨W2, rfl⟩ : ∃ x : World, x = wc := ⟨_, rfl⟩
          replace bx3 := bx3.next hb
          replace bh := bh.next hb
          have hB2 := hB.trans (hb.mono hB.size)
          have hgb : w.heap.size + 1 < g := Nat.lt_of_lt_of_le HBH.out.lt hg1
          clear hb hold hst hs hB HBX HBH HVV
          have hB := hB2; clear hB2
          obtain ⟨B3, B4, B5, b3, b4, b5, bg, hr⟩ := hnew
          have cx := cell_at HA.out hB HX.out
          by_cases hx : e < x
          ·
            obtain rfl : bb = true := by rw [← HBB.out]; exact decide_eq_true hx
            obtain rfl : EE = x := by rw [← HEE.out, Hu.E, if_pos hx]
            obtain rfl : PP = ⟨0, 0, (j : Int) + 1, [], [], []⟩ := by rw [← HPP.out, Hu.T, if_pos hx]; rfl
            have hpp : Pc.Bare ⟨0, 0, (j : Int) + 1, [], [], []⟩ := ⟨rfl, rfl, rfl⟩
            have hmx : max e EE = EE := by omega
            have hgt : EE > e := hx
            dsimp only at bg hr bx3
            clear HBB HEE HPP
            obtain ⟨d0, d1, d2, d3, d4, d5, d6⟩ := seven_cells bg
            obtain ⟨f0, f1, f2, f3, f4, f5, f6⟩ := seven_free bx3
            obtain ⟨k0, k1, k2, k3, k4, k5, k6⟩ := seven_cells bx3
            go_upto_region 14 with fail
            clear d0 d1 d2 d3 d4 d5 d6 f0 f1 f2 f3 f4 f5 f6 k0 k1 k2 k3 k4 k5 k6
            refine name_wp fun W3 hW3 => ?_
            have bx4 : Box W3 w.heap.size #[.int .i64 EE, .int .i64 0, .int .i64 0, .int .i64 ((j : Int) + 1), .slice B3 0 b3, .slice B4 0 b4, .slice B5 0 b5] 32 := by rw [← hW3]; exact seven_box bx3
            have hr2 : HueIs false W3 0 W3.heap.size (.agg #[.int .i64 EE, .int .i64 0, .int .i64 0, .int .i64 ((j : Int) + 1), .slice B3 0 b3, .slice B4 0 b4, .slice B5 0 b5]) EE ⟨0, 0, (j : Int) + 1, [], [], []⟩ := hr.move hpp
            have hu2 : HBox 32 W3 w.heap.size EE ⟨0, 0, (j : Int) + 1, [], [], []⟩ := ⟨_, _, _, _, _, _, bx4, hr2⟩
            have bh2 : Box W3 (w.heap.size + 1) #[.int .i64 0, .int .i64 0, .int .i64 ((j : Int) + 1), .slice none 0 0, .slice none 0 0] 28 := by rw [← hW3]; exact (seven_far (by omega)).trans bh
            have hB2 : Below w.heap.size w W3 := by rw [← hW3]; exact seven_below hB (Nat.le_refl _)
            clear hW3 bx3 bg hr bh hB
            have HBH := Lib.hid bh2; have HBU := Lib.hid hu2; clear bh2 hu2
            obtain ⟨d0, d1, d2, d3, d4, d5, d6⟩ := seven_cells bx4
            go_wp2_with fail
            clear d0 d1 d2 d3 d4 d5 d6
            refine (doneq (b := true) hr2 (by simp)).mono ?_
            rintro y w4 ⟨rfl, hb⟩
            go_wp2_with fail
            go_roundg (xs1.length - (j + 1))
            case rel => exact ⟨j + 1, EE, (j : Int) + 1, ⟨0, 0, (j : Int) + 1, [], [], []⟩, by simp, by simp, by simp, by omega, rfl, hpp, HBU.out.next hb, HBH.out.next hb, hB2.trans (hb.mono hB2.size)⟩
            case measure => have := HK.out; omega
          ·
            obtain rfl : bb = false := by rw [← HBB.out]; exact decide_eq_false hx
            obtain rfl : EE = e := by rw [← HEE.out, Hu.E, if_neg hx]
            obtain rfl : PP = p := by rw [← HPP.out, Hu.T, if_neg hx]
            have hpp := hp
            have hmx : max EE x = EE := by omega
            have hgt : ¬ (x > EE) := hx
            clear HBB HEE HPP
            obtain ⟨d0, d1, d2, d3, d4, d5, d6⟩ := seven_cells bg
            obtain ⟨f0, f1, f2, f3, f4, f5, f6⟩ := seven_free bx3
            obtain ⟨k0, k1, k2, k3, k4, k5, k6⟩ := seven_cells bx3
            go_upto_region 14 with fail
            clear d0 d1 d2 d3 d4 d5 d6 f0 f1 f2 f3 f4 f5 f6 k0 k1 k2 k3 k4 k5 k6
            refine name_wp fun W3 hW3 => ?_
            have bx4 : Box W3 w.heap.size #[.int .i64 EE, .int .i64 PP.node, .int .i64 PP.state, .int .i64 PP.steps, .slice B3 PP.sent.length b3, .slice B4 PP.inn.length b4, .slice B5 PP.out.length b5] 32 := by rw [← hW3]; exact seven_box bx3
            have hr2 : HueIs false W3 0 W3.heap.size (.agg #[.int .i64 EE, .int .i64 PP.node, .int .i64 PP.state, .int .i64 PP.steps, .slice B3 PP.sent.length b3, .slice B4 PP.inn.length b4, .slice B5 PP.out.length b5]) EE PP := hr.move hpp
            have hu2 : HBox 32 W3 w.heap.size EE PP := ⟨_, _, _, _, _, _, bx4, hr2⟩
            have bh2 : Box W3 (w.heap.size + 1) #[.int .i64 0, .int .i64 0, .int .i64 ((j : Int) + 1), .slice none 0 0, .slice none 0 0] 28 := by rw [← hW3]; exact (seven_far (by omega)).trans bh
            have hB2 : Below w.heap.size w W3 := by rw [← hW3]; exact seven_below hB (Nat.le_refl _)
            clear hW3 bx3 bg hr bh hB
            have HBH := Lib.hid bh2; have HBU := Lib.hid hu2; clear bh2 hu2
            obtain ⟨d0, d1, d2, d3, d4, d5, d6⟩ := seven_cells bx4
            go_wp2_with fail
            clear d0 d1 d2 d3 d4 d5 d6
            refine (doneq (b := true) hr2 (by simp)).mono ?_
            rintro y w4 ⟨rfl, hb⟩
            go_wp2_with fail
            go_roundg (xs1.length - (j + 1))
            case rel => exact ⟨j + 1, EE, (j : Int) + 1, PP, by simp, by simp, by simp, by omega, rfl, hpp, HBU.out.next hb, HBH.out.next hb, hB2.trans (hb.mono hB2.size)⟩
            case measure => have := HK.out; omega
      ·
        go_wp2_with fail
        refine (fixed11_any _).mono ?_
        rintro e w2 ⟨rfl, hb⟩
        go_wp2_with fail
        go_ret
        exact ⟨rfl, hB.trans (hb.mono hB.size)⟩
    ·
      go_wp2_with fail
      refine (fixed11_any _).mono ?_
      rintro e w2 ⟨rfl, hb⟩
      go_wp2_with fail
      go_ret
      exact ⟨rfl, hB.trans (hb.mono hB.size)⟩
end Go.Proofs.Ytmbilaepeekglaa.hueOnce
