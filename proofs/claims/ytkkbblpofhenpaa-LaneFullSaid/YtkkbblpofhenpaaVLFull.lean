/- LaneFull: the walk. -/
import Derived.Test.YtkkbblpofhenpaaS16
namespace Go.Proofs.Ytkkbblpofhenpaa.laneFull
open Go.RowKit Go.Proofs.Ytkkbblpofhenpaa

set_option maxRecDepth 100000 in
set_option maxHeartbeats 8000000 in
theorem walk (r : Int) (wr0 : (Lit.int .u8 r).wf = true) (v1 : Value) (xs : List Bool) (w : World) (h1 : SliceIs Rep.bool false w 0 w.heap.size v1 xs) :
    Calls Try.prog 6 #[.int .u8 r, v1] w fun x w' => x = .returned (.bool true) ∧ Below w.heap.size w w' := by
  have hr : 0 ≤ r ∧ r ≤ 255 := by
    simp only [Lit.wf, Bool.and_eq_true, decide_eq_true_eq] at wr0
    exact ⟨wr0.1, wr0.2⟩
  obtain ⟨A, c, rfl, hlen, hcap, hat⟩ := h1
  have hR0 : 1 ≤ 1 + r % 20 ∧ 1 + r % 20 ≤ 20 := by omega
  obtain ⟨R, hR⟩ : ∃ R, R = 1 + r % 20 := ⟨_, rfl⟩
  rw [← hR] at hR0
  obtain ⟨hR1, hR2⟩ := hR0
  have HR := Lib.hid hR; clear hR
  have HAT := Lib.hid (show SliceAt Rep.bool false w 0 w.heap.size A xs from hat)
  clear hat
  unfold maxLen at hcap
  have hB0 := Below.refl w.heap.size w
  have HB0 := Lib.hid hB0; clear hB0
  go_enter Try.func6, Try.ntmps6
  try simp only [List.append_eq, List.cons_append, List.nil_append]
  go_upto_region 2 with fail
  rw [← HR.out]
  refine name_wp fun W0 hW0 => ?_
  have bx0 : Box W0 w.heap.size #[.bool false, .int .i64 R, .slice none 0 0] 25 := hW0 ▸ Box.new _ _ _
  have hB : Below w.heap.size w W0 := hW0 ▸ (Below.refl _ _).alloc (Nat.le_refl _) _
  clear hW0
  go_wp2_with fail
  go_loopg [6, 7, 8] 60 (fun m ap ot iv wr => ∃ (j p o : Nat) (l : List Fr) (UA : Option Addr) (uc : Nat), ap = .int .i64 (p : Int) ∧ ot = .int .i64 (o : Int) ∧ iv = .int .i64 (j : Int) ∧ j ≤ xs.length ∧ j ≤ 60 ∧ m = 60 - j ∧ FullInv l R p o ∧ Box wr w.heap.size #[.bool false, .int .i64 R, .slice UA l.length uc] 25 ∧ LaIs false wr (w.heap.size + 1) wr.heap.size (.agg #[.bool false, .int .i64 R, .slice UA l.length uc]) ⟨false, R, l⟩ ∧ Below w.heap.size w wr)
  case atStart => exact ⟨0, 0, 0, [], none, 0, rfl, rfl, rfl, by omega, by omega, by omega, FullInv.nil hR1 hR2, bx0, ⟨none, 0, rfl, SliceIs.none_⟩, hB⟩
  case round =>
    clear bx0 hB
    obtain ⟨j, p, o, l, UA, uc, rfl, rfl, rfl, hj, hj60, hm, hI, bx0, hl, hB⟩ := hrel
    have HM := Lib.hid hm; clear hm
    have hp20 : (p : Int) ≤ R := hI.pR
    have ho5 : o ≤ 5 := hI.o5
    have hll := hI.len
    obtain ⟨n, hn⟩ : ∃ n, l.length = n := ⟨_, rfl⟩
    rw [hn] at bx0 hl hll
    have HN := Lib.hid hn; have HLL := Lib.hid hll; have HI := Lib.hid hI; clear hn hll hI
    have hlo : w.heap.size + 1 ≤ wr.heap.size := bx0.lt
    by_cases hlt : j < xs.length
    ·
      by_cases h60 : j < 60
      ·
        have h60i : (j : Int) < 60 := by omega
        obtain ⟨x, hx⟩ := Pc.get_at hlt
        obtain ⟨g, ao, hA, _, hg, hc⟩ := (HAT.out.below hB (Nat.le_refl _)).bool hx
        subst hA
        have hgl : g < wr.heap.size := Nat.lt_trans hg (Nat.lt_of_succ_le hlo)
        have HC := Lib.hid hc; clear hc
        have HXX := Lib.hid hx; clear hx
        cases x with
        | false =>
          by_cases hf : (p : Int) < R
          ·
            have HFH := Lib.hid hf
            have hBk := Below.refl wr.heap.size wr
            have hc := HC.out
            go_wp2_with fail
            refine (capp ((j : Int) + 1) _).mono ?_
            rintro e w1 ⟨rfl, hb⟩
            replace bx0 := bx0.next hb
            replace hBk := hBk.trans (hb.mono hBk.size)
            have hc1 := (cell_of_block (hb.block g hgl)).trans hc
            have hgl1 := Nat.lt_of_lt_of_le hgl hb.size
            clear hb hc
            obtain ⟨d0, d1, d2⟩ := three_cells bx0
            have hl0 := bx0.lt
            go_wp2_with fail
            clear d0 d1 d2 hl0
            refine name_call fun W2 hW2 => ?_
            have hb : Below w1.heap.size w1 W2 := hW2 ▸ (Below.refl _ _).alloc (Nat.le_refl _) _
            clear hW2
            replace bx0 := bx0.next hb
            replace hBk := hBk.trans (hb.mono hBk.size)
            have hc2 := (cell_of_block (hb.block g hgl1)).trans hc1
            have hgl2 := Nat.lt_of_lt_of_le hgl1 hb.size
            clear hb hc1 hgl1
            have hl2 := hl.next hBk
            have hlo2 : w.heap.size + 1 ≤ W2.heap.size := Nat.le_trans hlo hBk.size
            have hlem := (HI.out.app_yes (fi := false) (k := (j : Int) + 1) (by omega) (by omega) (by have := HFH.out; omega))
            obtain ⟨l2, hl2e⟩ : ∃ l2, l ++ [(appF ((j : Int) + 1))] = l2 := ⟨_, rfl⟩
            have hn2 : l2.length = n + 1 := by rw [← hl2e, List.length_append, HN.out]; rfl
            rw [hl2e] at hlem
            clear hl2e
            have HLEM := Lib.hid hlem; have HN2 := Lib.hid hn2; clear hlem hn2
            refine (cpushI (lo := (w.heap.size + 1)) (a := ⟨false, R, l⟩) ⟨false, R, l2⟩ 0 hlo2 hl2 ((appF_on ((j : Int) + 1) _ (rng (w.heap.size + 1) _)).rng_ (fun _ q => q)) (by have := HN.out; have := HLL.out; show l.length < _; omega) HLEM.out.2.1 HLEM.out.2.2).mono ?_
            rintro e w3 ⟨⟨XA, Xc, rfl, hx3⟩, hb⟩
            dsimp only at hx3 ⊢
            rw [HN2.out] at hx3 ⊢
            replace hx3 : LaIs false w3 (w.heap.size + 1) w3.heap.size (.agg #[.bool false, .int .i64 R, .slice XA (n + 1) Xc]) ⟨false, R, l2⟩ := hx3
            replace bx0 := bx0.next hb
            have hc3 := (cell_of_block (hb.block g hgl2)).trans hc2
            have hgl3 := Nat.lt_of_lt_of_le hgl2 hb.size
            replace hl2 := hl2.next hb
            replace hBk := hBk.trans (hb.mono hBk.size)
            have hlo3 := Nat.le_trans hlo2 hb.size
            clear hb hc2 hgl2 hlo2
            go_upto_region 11 with fail
            refine name_wp fun W4 hW4 => ?_
            have bx1 : Box W4 w3.heap.size #[.bool false, .int .i64 R, .slice XA (n + 1) Xc] 25 := hW4 ▸ Box.new _ _ _
            have hb : Below w3.heap.size w3 W4 := hW4 ▸ (Below.refl _ _).alloc (Nat.le_refl _) _
            clear hW4
            replace bx0 := bx0.next hb
            have hc4 := (cell_of_block (hb.block g hgl3)).trans hc3
            have hgl4 := Nat.lt_of_lt_of_le hgl3 hb.size
            replace hl2 := hl2.next hb
            replace hx3 := hx3.next hb
            replace hBk := hBk.trans (hb.mono hBk.size)
            have hlo4 := Nat.le_trans hlo3 hb.size
            have hne1 : w.heap.size < w3.heap.size := hlo3
            clear hb hc3 hgl3 hlo3
            have hrt := HI.out.right (fi := false)
            obtain ⟨hkd, hcp, hl25⟩ := La.right_parts hrt
            have HKD := Lib.hid hkd; have HCP := Lib.hid hcp; clear hkd hcp hrt hl25
            have hl20 : LaIs false W4 0 W4.heap.size (.agg #[.bool false, .int .i64 R, .slice UA n uc]) ⟨false, R, l⟩ := hl2.zero_
            obtain ⟨d0, d1, d2⟩ := three_cells bx0
            have hl0 := bx0.lt
            go_wp2_with fail
            clear d0 d1 d2
            clear hl0
            refine (clafits (q := true) hl20 HCP.out HKD.out (by have := HN.out; have := HLL.out; show l.length ≤ _; omega) (HI.out.fits1 (decide_eq_true (by have := HFH.out; omega)))).mono ?_
            rintro e W5 ⟨rfl, hb⟩
            replace bx0 := bx0.next hb; replace bx1 := bx1.next hb
            have hc5 := (cell_of_block (hb.block g hgl4)).trans hc4
            have hgl5 := Nat.lt_of_lt_of_le hgl4 hb.size
            replace hl2 := hl2.next hb
            replace hx3 := hx3.next hb
            replace hBk := hBk.trans (hb.mono hBk.size)
            have hlo5 := Nat.le_trans hlo4 hb.size
            clear hb hc4 hgl4 hlo4 hl20
            obtain ⟨d0, d1, d2⟩ := three_cells bx0
            have df0 := three_free bx0 0
            have df1 := three_free bx0 1
            have df2 := three_free bx0 2
            have hl0 := bx0.lt
            obtain ⟨t0, t1, t2⟩ := three_cells bx1
            have hl1 := bx1.lt
            have HX := Lib.hid bx0; have HL2 := Lib.hid hl2; have HBK := Lib.hid hBk; clear bx0 hl2 hBk
            have HX3 := Lib.hid hx3; clear hx3 bx1
            go_wp2_with fail
            go_roundg (60 - (j + 1))
            case rel => exact ⟨j + 1, (p + 1), o, l2, XA, Xc, by simp, by simp, by simp, by omega, by omega, rfl, HLEM.out.1, by rw [HN2.out]; exact blk_set (blk_set (blk_set HX.out 0 _) 1 _) 2 _, by rw [HN2.out]; exact (HX3.out.keep (fun b h1 _ => three_other (by omega))).widen (Nat.le_refl _) (Nat.le_of_eq three_size.symm), (((hB.trans (HBK.out.mono (Nat.le_of_lt (Nat.lt_of_succ_le hlo)))).setCell (Nat.le_refl _) _).setCell (Nat.le_refl _) _).setCell (Nat.le_refl _) _⟩
            case measure => have := HM.out; omega
          ·
            have HFH := Lib.hid hf
            have hBk := Below.refl wr.heap.size wr
            have hc := HC.out
            go_wp2_with fail
            refine (capp ((j : Int) + 1) _).mono ?_
            rintro e w1 ⟨rfl, hb⟩
            replace bx0 := bx0.next hb
            replace hBk := hBk.trans (hb.mono hBk.size)
            have hc1 := (cell_of_block (hb.block g hgl)).trans hc
            have hgl1 := Nat.lt_of_lt_of_le hgl hb.size
            clear hb hc
            obtain ⟨d0, d1, d2⟩ := three_cells bx0
            have hl0 := bx0.lt
            go_wp2_with fail
            clear d0 d1 d2 hl0
            refine name_call fun W2 hW2 => ?_
            have hb : Below w1.heap.size w1 W2 := hW2 ▸ (Below.refl _ _).alloc (Nat.le_refl _) _
            clear hW2
            replace bx0 := bx0.next hb
            replace hBk := hBk.trans (hb.mono hBk.size)
            have hc2 := (cell_of_block (hb.block g hgl1)).trans hc1
            have hgl2 := Nat.lt_of_lt_of_le hgl1 hb.size
            clear hb hc1 hgl1
            have hl2 := hl.next hBk
            have hlo2 : w.heap.size + 1 ≤ W2.heap.size := Nat.le_trans hlo hBk.size
            have hlem := (HI.out.app_no (fi := false) (k := (j : Int) + 1) (by omega) (by omega) (by have := HFH.out; omega))
            have HLEM := Lib.hid hlem; clear hlem
            refine (cpushI (lo := (w.heap.size + 1)) (a := ⟨false, R, l⟩) ⟨false, 0, []⟩ 6 hlo2 hl2 ((appF_on ((j : Int) + 1) _ (rng (w.heap.size + 1) _)).rng_ (fun _ q => q)) (by have := HN.out; have := HLL.out; show l.length < _; omega) HLEM.out.1 HLEM.out.2).mono ?_
            rintro e w3 ⟨⟨XA, Xc, rfl, hx3⟩, hb⟩
            dsimp only [List.length_nil]
            clear hx3
            replace bx0 := bx0.next hb
            have hc3 := (cell_of_block (hb.block g hgl2)).trans hc2
            have hgl3 := Nat.lt_of_lt_of_le hgl2 hb.size
            replace hl2 := hl2.next hb
            replace hBk := hBk.trans (hb.mono hBk.size)
            have hlo3 := Nat.le_trans hlo2 hb.size
            clear hb hc2 hgl2 hlo2
            go_upto_region 11 with fail
            refine name_wp fun W4 hW4 => ?_
            have bx1 : Box W4 w3.heap.size #[.bool false, .int .i64 0, .slice XA 0 Xc] 25 := hW4 ▸ Box.new _ _ _
            have hb : Below w3.heap.size w3 W4 := hW4 ▸ (Below.refl _ _).alloc (Nat.le_refl _) _
            clear hW4
            replace bx0 := bx0.next hb
            have hc4 := (cell_of_block (hb.block g hgl3)).trans hc3
            have hgl4 := Nat.lt_of_lt_of_le hgl3 hb.size
            replace hl2 := hl2.next hb
            replace hBk := hBk.trans (hb.mono hBk.size)
            have hlo4 := Nat.le_trans hlo3 hb.size
            have hne1 : w.heap.size < w3.heap.size := hlo3
            clear hb hc3 hgl3 hlo3
            have hrt := HI.out.right (fi := false)
            obtain ⟨hkd, hcp, hl25⟩ := La.right_parts hrt
            have HKD := Lib.hid hkd; have HCP := Lib.hid hcp; clear hkd hcp hrt hl25
            have hl20 : LaIs false W4 0 W4.heap.size (.agg #[.bool false, .int .i64 R, .slice UA n uc]) ⟨false, R, l⟩ := hl2.zero_
            obtain ⟨d0, d1, d2⟩ := three_cells bx0
            have hl0 := bx0.lt
            go_wp2_with fail
            clear d0 d1 d2
            clear hl0
            refine (clafits (q := false) hl20 HCP.out HKD.out (by have := HN.out; have := HLL.out; show l.length ≤ _; omega) (HI.out.fits1 (decide_eq_false (by have := HFH.out; omega)))).mono ?_
            rintro e W5 ⟨rfl, hb⟩
            replace bx0 := bx0.next hb; replace bx1 := bx1.next hb
            have hc5 := (cell_of_block (hb.block g hgl4)).trans hc4
            have hgl5 := Nat.lt_of_lt_of_le hgl4 hb.size
            replace hl2 := hl2.next hb
            replace hBk := hBk.trans (hb.mono hBk.size)
            have hlo5 := Nat.le_trans hlo4 hb.size
            clear hb hc4 hgl4 hlo4 hl20
            obtain ⟨d0, d1, d2⟩ := three_cells bx0
            have df0 := three_free bx0 0
            have df1 := three_free bx0 1
            have df2 := three_free bx0 2
            have hl0 := bx0.lt
            have HX := Lib.hid bx0; have HL2 := Lib.hid hl2; have HBK := Lib.hid hBk; clear bx0 hl2 hBk
            go_wp2_with fail
            go_roundg (60 - (j + 1))
            case rel => exact ⟨j + 1, p, o, l, UA, uc, rfl, rfl, by simp, by omega, by omega, rfl, HI.out, by rw [HN.out]; exact HX.out, by rw [HN.out]; exact HL2.out, hB.trans (HBK.out.mono (Nat.le_of_lt (Nat.lt_of_succ_le hlo)))⟩
            case measure => have := HM.out; omega
        | true =>
          by_cases hf : (o : Int) < 5
          ·
            have HFH := Lib.hid hf
            have hBk := Below.refl wr.heap.size wr
            have hc := HC.out
            go_wp2_with fail
            refine (capp ((j : Int) + 1) _).mono ?_
            rintro e w1 ⟨rfl, hb⟩
            replace bx0 := bx0.next hb
            replace hBk := hBk.trans (hb.mono hBk.size)
            have hc1 := (cell_of_block (hb.block g hgl)).trans hc
            have hgl1 := Nat.lt_of_lt_of_le hgl hb.size
            clear hb hc
            obtain ⟨d0, d1, d2⟩ := three_cells bx0
            have hl0 := bx0.lt
            go_wp2_with fail
            clear d0 d1 d2 hl0
            refine name_call fun W2 hW2 => ?_
            have hb : Below w1.heap.size w1 W2 := hW2 ▸ (Below.refl _ _).alloc (Nat.le_refl _) _
            clear hW2
            replace bx0 := bx0.next hb
            replace hBk := hBk.trans (hb.mono hBk.size)
            have hc2 := (cell_of_block (hb.block g hgl1)).trans hc1
            have hgl2 := Nat.lt_of_lt_of_le hgl1 hb.size
            clear hb hc1 hgl1
            have hl2 := hl.next hBk
            have hlo2 : w.heap.size + 1 ≤ W2.heap.size := Nat.le_trans hlo hBk.size
            have hlem := (HI.out.yes_yes (fi := false) (by omega))
            obtain ⟨l2, hl2e⟩ : ∃ l2, l ++ [yesF] = l2 := ⟨_, rfl⟩
            have hn2 : l2.length = n + 1 := by rw [← hl2e, List.length_append, HN.out]; rfl
            rw [hl2e] at hlem
            clear hl2e
            have HLEM := Lib.hid hlem; have HN2 := Lib.hid hn2; clear hlem hn2
            refine (cpushI (lo := (w.heap.size + 1)) (a := ⟨false, R, l⟩) ⟨false, R, l2⟩ 0 hlo2 hl2 ((yesF_on _ (rng (w.heap.size + 1) _)).rng_ (fun _ q => q)) (by have := HN.out; have := HLL.out; show l.length < _; omega) HLEM.out.2.1 HLEM.out.2.2).mono ?_
            rintro e w3 ⟨⟨XA, Xc, rfl, hx3⟩, hb⟩
            dsimp only at hx3 ⊢
            rw [HN2.out] at hx3 ⊢
            replace hx3 : LaIs false w3 (w.heap.size + 1) w3.heap.size (.agg #[.bool false, .int .i64 R, .slice XA (n + 1) Xc]) ⟨false, R, l2⟩ := hx3
            replace bx0 := bx0.next hb
            have hc3 := (cell_of_block (hb.block g hgl2)).trans hc2
            have hgl3 := Nat.lt_of_lt_of_le hgl2 hb.size
            replace hl2 := hl2.next hb
            replace hBk := hBk.trans (hb.mono hBk.size)
            have hlo3 := Nat.le_trans hlo2 hb.size
            clear hb hc2 hgl2 hlo2
            go_upto_region 11 with fail
            refine name_wp fun W4 hW4 => ?_
            have bx1 : Box W4 w3.heap.size #[.bool false, .int .i64 R, .slice XA (n + 1) Xc] 25 := hW4 ▸ Box.new _ _ _
            have hb : Below w3.heap.size w3 W4 := hW4 ▸ (Below.refl _ _).alloc (Nat.le_refl _) _
            clear hW4
            replace bx0 := bx0.next hb
            have hc4 := (cell_of_block (hb.block g hgl3)).trans hc3
            have hgl4 := Nat.lt_of_lt_of_le hgl3 hb.size
            replace hl2 := hl2.next hb
            replace hx3 := hx3.next hb
            replace hBk := hBk.trans (hb.mono hBk.size)
            have hlo4 := Nat.le_trans hlo3 hb.size
            have hne1 : w.heap.size < w3.heap.size := hlo3
            clear hb hc3 hgl3 hlo3
            obtain ⟨W5, rfl⟩ : ∃ x : World, x = W4 := ⟨_, rfl⟩
            have hlo5 := hlo4; have hgl5 := hgl4; have hc5 := hc4; clear hc4 hgl4
            obtain ⟨d0, d1, d2⟩ := three_cells bx0
            have df0 := three_free bx0 0
            have df1 := three_free bx0 1
            have df2 := three_free bx0 2
            have hl0 := bx0.lt
            obtain ⟨t0, t1, t2⟩ := three_cells bx1
            have hl1 := bx1.lt
            have HX := Lib.hid bx0; have HL2 := Lib.hid hl2; have HBK := Lib.hid hBk; clear bx0 hl2 hBk
            have HX3 := Lib.hid hx3; clear hx3 bx1
            go_wp2_with fail
            go_roundg (60 - (j + 1))
            case rel => exact ⟨j + 1, p, (o + 1), l2, XA, Xc, by simp, by simp, by simp, by omega, by omega, rfl, HLEM.out.1, by rw [HN2.out]; exact blk_set (blk_set (blk_set HX.out 0 _) 1 _) 2 _, by rw [HN2.out]; exact (HX3.out.keep (fun b h1 _ => three_other (by omega))).widen (Nat.le_refl _) (Nat.le_of_eq three_size.symm), (((hB.trans (HBK.out.mono (Nat.le_of_lt (Nat.lt_of_succ_le hlo)))).setCell (Nat.le_refl _) _).setCell (Nat.le_refl _) _).setCell (Nat.le_refl _) _⟩
            case measure => have := HM.out; omega
          ·
            have HFH := Lib.hid hf
            have hBk := Below.refl wr.heap.size wr
            have hc := HC.out
            go_wp2_with fail
            refine (capp ((j : Int) + 1) _).mono ?_
            rintro e w1 ⟨rfl, hb⟩
            replace bx0 := bx0.next hb
            replace hBk := hBk.trans (hb.mono hBk.size)
            have hc1 := (cell_of_block (hb.block g hgl)).trans hc
            have hgl1 := Nat.lt_of_lt_of_le hgl hb.size
            clear hb hc
            obtain ⟨d0, d1, d2⟩ := three_cells bx0
            have hl0 := bx0.lt
            go_wp2_with fail
            clear d0 d1 d2 hl0
            refine name_call fun W2 hW2 => ?_
            have hb : Below w1.heap.size w1 W2 := hW2 ▸ (Below.refl _ _).alloc (Nat.le_refl _) _
            clear hW2
            replace bx0 := bx0.next hb
            replace hBk := hBk.trans (hb.mono hBk.size)
            have hc2 := (cell_of_block (hb.block g hgl1)).trans hc1
            have hgl2 := Nat.lt_of_lt_of_le hgl1 hb.size
            clear hb hc1 hgl1
            have hl2 := hl.next hBk
            have hlo2 : w.heap.size + 1 ≤ W2.heap.size := Nat.le_trans hlo hBk.size
            have hlem := (HI.out.yes_no (fi := false) (by omega))
            have HLEM := Lib.hid hlem; clear hlem
            refine (cpushI (lo := (w.heap.size + 1)) (a := ⟨false, R, l⟩) ⟨false, 0, []⟩ 6 hlo2 hl2 ((yesF_on _ (rng (w.heap.size + 1) _)).rng_ (fun _ q => q)) (by have := HN.out; have := HLL.out; show l.length < _; omega) HLEM.out.1 HLEM.out.2).mono ?_
            rintro e w3 ⟨⟨XA, Xc, rfl, hx3⟩, hb⟩
            dsimp only [List.length_nil]
            clear hx3
            replace bx0 := bx0.next hb
            have hc3 := (cell_of_block (hb.block g hgl2)).trans hc2
            have hgl3 := Nat.lt_of_lt_of_le hgl2 hb.size
            replace hl2 := hl2.next hb
            replace hBk := hBk.trans (hb.mono hBk.size)
            have hlo3 := Nat.le_trans hlo2 hb.size
            clear hb hc2 hgl2 hlo2
            go_upto_region 11 with fail
            refine name_wp fun W4 hW4 => ?_
            have bx1 : Box W4 w3.heap.size #[.bool false, .int .i64 0, .slice XA 0 Xc] 25 := hW4 ▸ Box.new _ _ _
            have hb : Below w3.heap.size w3 W4 := hW4 ▸ (Below.refl _ _).alloc (Nat.le_refl _) _
            clear hW4
            replace bx0 := bx0.next hb
            have hc4 := (cell_of_block (hb.block g hgl3)).trans hc3
            have hgl4 := Nat.lt_of_lt_of_le hgl3 hb.size
            replace hl2 := hl2.next hb
            replace hBk := hBk.trans (hb.mono hBk.size)
            have hlo4 := Nat.le_trans hlo3 hb.size
            have hne1 : w.heap.size < w3.heap.size := hlo3
            clear hb hc3 hgl3 hlo3
            obtain ⟨W5, rfl⟩ : ∃ x : World, x = W4 := ⟨_, rfl⟩
            have hlo5 := hlo4; have hgl5 := hgl4; have hc5 := hc4; clear hc4 hgl4
            obtain ⟨d0, d1, d2⟩ := three_cells bx0
            have df0 := three_free bx0 0
            have df1 := three_free bx0 1
            have df2 := three_free bx0 2
            have hl0 := bx0.lt
            have HX := Lib.hid bx0; have HL2 := Lib.hid hl2; have HBK := Lib.hid hBk; clear bx0 hl2 hBk
            go_wp2_with fail
            go_roundg (60 - (j + 1))
            case rel => exact ⟨j + 1, p, o, l, UA, uc, rfl, rfl, by simp, by omega, by omega, rfl, HI.out, by rw [HN.out]; exact HX.out, by rw [HN.out]; exact HL2.out, hB.trans (HBK.out.mono (Nat.le_of_lt (Nat.lt_of_succ_le hlo)))⟩
            case measure => have := HM.out; omega
      ·
        have h60i : ¬ ((j : Int) < 60) := by omega
        have HB := Lib.hid hB; have HL := Lib.hid hl; clear hB hl
        have hl0 : LaIs false wr 0 wr.heap.size (.agg #[.bool false, .int .i64 R, .slice UA n uc]) ⟨false, R, l⟩ := HL.out.zero_
        have hrt := HI.out.right (fi := false)
        obtain ⟨hkd, hcp, hl25⟩ := La.right_parts hrt
        have HKD := Lib.hid hkd; have HCP := Lib.hid hcp; have HRT := Lib.hid hrt; clear hkd hcp hrt hl25
        have hle : (⟨false, R, l⟩ : La).l.length ≤ 1000000 := by have := HN.out; have := HLL.out; show l.length ≤ _; omega
        have hw1 : wrap64 (R - (p : Int)) = R - (p : Int) := by unfold wrap64; omega
        have hw2 : wrap64 (R - (p : Int) + 1) = R - (p : Int) + 1 := by unfold wrap64; omega
        have z1 : ((p : Int) == (p : Int)) = true := by simp
        have z2 : ((o : Int) == (o : Int)) = true := by simp
        obtain ⟨W5, rfl⟩ : ∃ x : World, x = wr := ⟨_, rfl⟩
        have hB := HB.out
        clear HB HL
        obtain ⟨d0, d1, d2⟩ := three_cells bx0
        have hl0 := bx0.lt
        go_wp2_with fail
        clear d0 d1 d2
        clear hl0
        refine (claapps (n := p) hl0 HKD.out hle HI.out.c0).mono ?_
        rintro e w1 ⟨rfl, hb⟩
        replace bx0 := bx0.next hb
        replace hl0 := hl0.next hb
        replace hB := hB.trans (hb.mono hB.size)
        clear hb
        obtain ⟨d0, d1, d2⟩ := three_cells bx0
        have hl0 := bx0.lt
        go_wp2_with fail
        clear d0 d1 d2
        clear hl0
        refine (clacount (n := o) hl0 (by decide) HKD.out hle HI.out.c3).mono ?_
        rintro e w2 ⟨rfl, hb⟩
        replace bx0 := bx0.next hb
        replace hl0 := hl0.next hb
        replace hB := hB.trans (hb.mono hB.size)
        clear hb
        obtain ⟨d0, d1, d2⟩ := three_cells bx0
        have hl0 := bx0.lt
        go_wp2_with fail
        clear d0 d1 d2
        clear hl0
        refine (clafits (q := true) hl0 HCP.out HKD.out hle (La.fits_all (a := ⟨false, R, l⟩) HI.out.c0)).mono ?_
        rintro e w3 ⟨rfl, hb⟩
        replace bx0 := bx0.next hb
        replace hl0 := hl0.next hb
        replace hB := hB.trans (hb.mono hB.size)
        clear hb
        obtain ⟨d0, d1, d2⟩ := three_cells bx0
        have hl0 := bx0.lt
        go_wp2_with fail
        clear d0 d1 d2
        clear hl0
        refine (clafits (q := false) hl0 HCP.out HKD.out hle (La.fits_more (a := ⟨false, R, l⟩) HI.out.c0 HRT.out)).mono ?_
        rintro e w4 ⟨rfl, hb⟩
        replace bx0 := bx0.next hb
        replace hl0 := hl0.next hb
        replace hB := hB.trans (hb.mono hB.size)
        clear hb
        obtain ⟨d0, d1, d2⟩ := three_cells bx0
        have hl0 := bx0.lt
        go_wp2_with fail
        clear d0 d1 d2
        clear hl0
        refine (fixed8_any _).mono ?_
        rintro e w5 ⟨rfl, hb⟩
        replace bx0 := bx0.next hb
        replace hl0 := hl0.next hb
        replace hB := hB.trans (hb.mono hB.size)
        clear hb
        go_wp2_with fail
        go_ret
        exact ⟨rfl, hB⟩
    ·
      have HB := Lib.hid hB; have HL := Lib.hid hl; clear hB hl
      have hl0 : LaIs false wr 0 wr.heap.size (.agg #[.bool false, .int .i64 R, .slice UA n uc]) ⟨false, R, l⟩ := HL.out.zero_
      have hrt := HI.out.right (fi := false)
      obtain ⟨hkd, hcp, hl25⟩ := La.right_parts hrt
      have HKD := Lib.hid hkd; have HCP := Lib.hid hcp; have HRT := Lib.hid hrt; clear hkd hcp hrt hl25
      have hle : (⟨false, R, l⟩ : La).l.length ≤ 1000000 := by have := HN.out; have := HLL.out; show l.length ≤ _; omega
      have hw1 : wrap64 (R - (p : Int)) = R - (p : Int) := by unfold wrap64; omega
      have hw2 : wrap64 (R - (p : Int) + 1) = R - (p : Int) + 1 := by unfold wrap64; omega
      have z1 : ((p : Int) == (p : Int)) = true := by simp
      have z2 : ((o : Int) == (o : Int)) = true := by simp
      obtain ⟨W5, rfl⟩ : ∃ x : World, x = wr := ⟨_, rfl⟩
      have hB := HB.out
      clear HB HL
      obtain ⟨d0, d1, d2⟩ := three_cells bx0
      have hl0 := bx0.lt
      go_wp2_with fail
      clear d0 d1 d2
      clear hl0
      refine (claapps (n := p) hl0 HKD.out hle HI.out.c0).mono ?_
      rintro e w1 ⟨rfl, hb⟩
      replace bx0 := bx0.next hb
      replace hl0 := hl0.next hb
      replace hB := hB.trans (hb.mono hB.size)
      clear hb
      obtain ⟨d0, d1, d2⟩ := three_cells bx0
      have hl0 := bx0.lt
      go_wp2_with fail
      clear d0 d1 d2
      clear hl0
      refine (clacount (n := o) hl0 (by decide) HKD.out hle HI.out.c3).mono ?_
      rintro e w2 ⟨rfl, hb⟩
      replace bx0 := bx0.next hb
      replace hl0 := hl0.next hb
      replace hB := hB.trans (hb.mono hB.size)
      clear hb
      obtain ⟨d0, d1, d2⟩ := three_cells bx0
      have hl0 := bx0.lt
      go_wp2_with fail
      clear d0 d1 d2
      clear hl0
      refine (clafits (q := true) hl0 HCP.out HKD.out hle (La.fits_all (a := ⟨false, R, l⟩) HI.out.c0)).mono ?_
      rintro e w3 ⟨rfl, hb⟩
      replace bx0 := bx0.next hb
      replace hl0 := hl0.next hb
      replace hB := hB.trans (hb.mono hB.size)
      clear hb
      obtain ⟨d0, d1, d2⟩ := three_cells bx0
      have hl0 := bx0.lt
      go_wp2_with fail
      clear d0 d1 d2
      clear hl0
      refine (clafits (q := false) hl0 HCP.out HKD.out hle (La.fits_more (a := ⟨false, R, l⟩) HI.out.c0 HRT.out)).mono ?_
      rintro e w4 ⟨rfl, hb⟩
      replace bx0 := bx0.next hb
      replace hl0 := hl0.next hb
      replace hB := hB.trans (hb.mono hB.size)
      clear hb
      obtain ⟨d0, d1, d2⟩ := three_cells bx0
      have hl0 := bx0.lt
      go_wp2_with fail
      clear d0 d1 d2
      clear hl0
      refine (fixed8_any _).mono ?_
      rintro e w5 ⟨rfl, hb⟩
      replace bx0 := bx0.next hb
      replace hl0 := hl0.next hb
      replace hB := hB.trans (hb.mono hB.size)
      clear hb
      go_wp2_with fail
      go_ret
      exact ⟨rfl, hB⟩
end Go.Proofs.Ytkkbblpofhenpaa.laneFull
