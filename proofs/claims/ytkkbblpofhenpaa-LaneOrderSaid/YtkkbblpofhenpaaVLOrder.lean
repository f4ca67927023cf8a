/- LaneOrder: the walk. -/
import Derived.Test.YtkkbblpofhenpaaS16
namespace Go.Proofs.Ytkkbblpofhenpaa.laneOrder
open Go.RowKit Go.Proofs.Ytkkbblpofhenpaa

set_option maxRecDepth 100000 in
set_option maxHeartbeats 8000000 in
theorem walk (r : Int) (wr0 : (Lit.int .u8 r).wf = true) (v1 : Value) (ps : List Int) (w : World) (h1 : SliceIs Rep.byte false w 0 w.heap.size v1 ps) :
    Calls Try.prog 5 #[.int .u8 r, v1] w fun x w' => x = .returned (.bool true) ∧ Below w.heap.size w w' := by
  have hr : 0 ≤ r ∧ r ≤ 255 := by
    simp only [Lit.wf, Bool.and_eq_true, decide_eq_true_eq] at wr0
    exact ⟨wr0.1, wr0.2⟩
  obtain ⟨PA, pc, rfl, hlen, hcap, hat⟩ := h1
  have HAT := Lib.hid (show SliceAt Rep.byte false w 0 w.heap.size PA ps from hat)
  clear hat
  unfold maxLen at hcap
  obtain ⟨m, hm⟩ : ∃ m : Nat, 1 + r % 20 = (m : Int) := ⟨(1 + r % 20).toNat, by omega⟩
  have hm1 : 1 ≤ m ∧ m ≤ 20 := by omega
  have HM0 := Lib.hid hm; clear hm
  go_enter Try.func5, Try.ntmps5
  try simp only [List.append_eq, List.cons_append, List.nil_append]
  go_upto_region 3 with fail
  rw [HM0.out]
  refine name_wp fun W0 hW0 => ?_
  have bx0 : Box W0 w.heap.size #[.bool true, .int .i64 20, .slice none 0 0] 25 := hW0 ▸ (Box.new' _ _ (by first | rfl | simp)).alloc _
  have bx1 : Box W0 (w.heap.size + 1) #[.bool false, .int .i64 20, .slice none 0 0] 25 := hW0 ▸ Box.new' _ _ (by simp)
  have hB : Below w.heap.size w W0 := hW0 ▸ ((Below.refl _ _).alloc (Nat.le_refl _) _).alloc (by simp) _
  clear hW0
  go_wp2_with fail
  go_loopg [8] m (fun k iv wr => ∃ (j : Nat) (UA VA : Option Addr) (uc vc : Nat), iv = .int .i64 (j : Int) ∧ j ≤ m ∧ k = m - j ∧ Box wr w.heap.size #[.bool true, .int .i64 20, .slice UA j uc] 25 ∧ Box wr (w.heap.size + 1) #[.bool false, .int .i64 20, .slice VA j vc] 25 ∧ LaIs false wr (w.heap.size + 1 + 1) wr.heap.size (.agg #[.bool true, .int .i64 20, .slice UA j uc]) ⟨true, 20, appsOf (upto j)⟩ ∧ LaIs false wr (w.heap.size + 1 + 1) wr.heap.size (.agg #[.bool false, .int .i64 20, .slice VA j vc]) ⟨false, 20, appsOf (upto j)⟩ ∧ Below w.heap.size w wr)
  case atStart => exact ⟨0, none, none, 0, 0, rfl, by omega, by omega, bx0, bx1, ⟨none, 0, rfl, SliceIs.none_⟩, ⟨none, 0, rfl, SliceIs.none_⟩, hB⟩
  case round =>
    clear bx0 bx1 hB
    obtain ⟨j, UA, VA, uc, vc, rfl, hj, hk, bx0, bx1, ha, hb1, hB⟩ := hrel
    have hlw : (w.heap.size + 1 + 1) ≤ wr.heap.size := bx1.lt
    have HK := Lib.hid hk; clear hk
    by_cases hlt : j < m
    ·
      have hj20 : j < 20 := by omega
      have HJ := Lib.hid hj20; clear hj20
      obtain ⟨l0, hl0⟩ : ∃ l, appsOf (upto j) = l := ⟨_, rfl⟩
      obtain ⟨l2, hl2⟩ : ∃ l, appsOf (upto (j + 1)) = l := ⟨_, rfl⟩
      have hp := fun (fi : Bool) => push_upto (fi := fi) HJ.out
      rw [hl0, hl2] at hp
      rw [hl0] at ha hb1
      have hn0 : l0.length = j := by rw [← hl0, appsOf_len, upto_len]
      have hn2 : l2.length = j + 1 := by rw [← hl2, appsOf_len, upto_len]
      have HP := Lib.hid hp; have HN0 := Lib.hid hn0; have HN2 := Lib.hid hn2; have HL2 := Lib.hid hl2; clear hp hn0 hn2 hl0 hl2
      go_upto_region 6 with fail
      have hlo : (w.heap.size + 1 + 1) ≤ wr.heap.size := bx1.lt
      have HLO := Lib.hid hlo; have HA := Lib.hid ha
      have bxr := bx0
      go_cut [9, 10] (fun u x wx => PushPost 25 wr (w.heap.size + 1 + 1) 0 ⟨true, 20, l2⟩ u x wx)
      case first =>
        have hV := (Below.refl wr.heap.size wr).drew
        replace bxr := bxr.next ((Below.refl _ _).drew)
        refine region_go 24 (by kernel_rfl) ?_
        refine wpAny_go 24 0 [1] 2 10 (by kernel_rfl) (by kernel_rfl) (fun _ _ _ _ _ h => h) (by kernel_rfl) (by rfl) (by rfl) (by kernel_rfl) ?_
        simp only [List.map_cons, List.map_nil, List.getD_cons_succ, List.getD_cons_zero]
        go_wp2_with fail
        change wpAnyM _ _ _ _ _ _ _ _ _ _
        refine wpAny_takeM 2 rfl (by kernel_rfl) (by rfl : 2 ||| 2 ^ 2 = 6) (by kernel_rfl) (by kernel_rfl) (by kernel_rfl) (by kernel_rfl) (fun _ _ _ h => h) (.inl ⟨by rfl, fun w => by (go_simp; try with_reducible rfl)⟩) ?_
        obtain ⟨c0, c1, c2⟩ := three_cells bxr
        refine wpAny_reads 24 6 [0] 7 8 (by kernel_rfl) (by kernel_rfl) (fun _ _ _ _ _ h => h) (by kernel_rfl) (by rfl) (by rfl) (by kernel_rfl) ?_
        simp only [List.map_cons, List.map_nil, List.getD_cons_zero]
        go_wp2_with fail
        change _ → wpAnyM _ _ _ _ _ _ _ _ _ _; intro _
        clear c0 c1 c2
        refine name_any fun y0 hy => ?_
        have s0 : wr.heap.size ≤ y0.heap.size := by rw [← hy]; simp
        rw [hy] at hV
        clear hy bxr
        refine wpAny_twoM 3 8 15 263 (by kernel_rfl) (by kernel_rfl) (of_decide_eq_true (by kernel_rfl)) (of_decide_eq_true (by kernel_rfl)) (by rfl) (by rfl) ?_ ?_
        ·
          simp only [List.getD_cons_succ, List.getD_cons_zero]
          go_wp2_with fail
          refine (capp ((j : Int) + 1) _).mono ?_
          rintro e y1 ⟨rfl, hh⟩
          have hr := appF_on ((j : Int) + 1) y1 (also (rng (w.heap.size + 1 + 1) wr.heap.size) y0.heap.size y1.heap.size)
          replace hV := hV.trans (hh.mono s0)
          have s1 := Nat.le_trans s0 hh.size
          clear hh
          go_wp2_with fail
          refine ⟨fun _ => Ext.below (below_drewL hV) (Nat.le_refl _), ?_⟩
          refine wpAny_twoM 4 8 31 271 (by kernel_rfl) (by kernel_rfl) (of_decide_eq_true (by kernel_rfl)) (of_decide_eq_true (by kernel_rfl)) (by rfl) (by rfl) ?_ ?_
          ·
            simp only [List.getD_cons_succ, List.getD_cons_zero]
            go_wp2_with fail
            refine (cpushI ⟨true, 20, l2⟩ 0 (Nat.le_trans HLO.out s1) ((HA.out.keep fun _ _ q => hV.block _ q).widen (Nat.le_refl _) s1) (hr.rng_ (fun _ q => q.elim (fun q => ⟨q.1, Nat.lt_of_lt_of_le q.2 s1⟩) (fun q => ⟨Nat.le_trans (Nat.le_trans HLO.out s0) q.1, q.2⟩))) (by have := HN0.out; have := HJ.out; show l0.length < _; omega) (HP.out true).1 (HP.out true).2).mono ?_
            rintro e y2 ⟨⟨LC, lc, rfl, hu⟩, hh⟩
            replace hV := hV.trans (hh.mono s1)
            have s2 := Nat.le_trans s1 hh.size
            clear hh
            go_wp2_with fail
            refine ⟨fun _ => Ext.below (below_drewL hV) (Nat.le_refl _), ?_⟩
            refine wpAny_go 24 31 [5, 6] 127 4 (by kernel_rfl) (by kernel_rfl) (fun _ _ _ _ _ h => h) (by kernel_rfl) (by rfl) (by rfl) (by kernel_rfl) ?_
            simp only [List.map_cons, List.map_nil, List.getD_cons_succ, List.getD_cons_zero]
            go_wp2_with fail
            change wpAnyM _ _ _ _ _ _ _ _ _ _
            refine wpAny_takeM 7 rfl (by kernel_rfl) (by rfl : 127 ||| 2 ^ 7 = 255) (by kernel_rfl) (by kernel_rfl) (by kernel_rfl) (by kernel_rfl) (fun _ _ _ h => h) (.inl ⟨by rfl, fun w => by (go_simp; try with_reducible rfl)⟩) ?_
            refine wpAny_oneM 8 511 (by kernel_rfl) (by kernel_rfl) (of_decide_eq_true (by kernel_rfl)) (by rfl) ?_
            simp only [List.getD_cons_succ, List.getD_cons_zero]
            go_wp2_with fail
            refine ⟨fun h => absurd h (by decide), name_any fun y3 hw => ?_⟩
            have hg : Box y3 y2.heap.size #[.bool false, .int .i64 0, .slice none 0 0] 25 := hw ▸ Box.new _ _ _
            have hh : Below y2.heap.size y2 y3 := hw ▸ (Below.refl _ _).alloc (Nat.le_refl _) _
            have z3 : y2.heap.size < y3.heap.size := hw ▸ (by simp)
            clear hw
            replace hu := hu.out_new hh
            replace hV := hV.trans (hh.mono s2)
            have s3 := Nat.le_trans s2 hh.size
            clear hh
            obtain ⟨d0, d1, d2⟩ := three_cells hg
            have df0 := three_free hg 0
            have df1 := three_free hg 1
            have df2 := three_free hg 2
            have hgl := hg.lt
            refine wpAny_go 24 511 [9, 10] 2047 0 (by kernel_rfl) (by kernel_rfl) (fun _ _ _ _ _ h => h) (by kernel_rfl) (by rfl) (by rfl) (by kernel_rfl) ?_
            simp only [List.map_cons, List.map_nil, List.getD_cons_succ, List.getD_cons_zero]
            go_wp2_with fail
            change wpAnyM _ _ _ _ _ _ _ _ _ _
            clear d0 d1 d2
            clear df0 df1 df2
            refine wpAny_endM (by kernel_rfl) (by kernel_rfl) ?_
            go_wp2_with fail
            go_meet
            exact PushPost.mk_ hg hu s2 hV
          ·
            simp only [List.getD_cons_succ, List.getD_cons_zero]
            go_wp2_with fail
            refine ⟨fun h => absurd h (by decide), name_any fun y2 hw => ?_⟩
            have hg : Box y2 y1.heap.size #[.bool false, .int .i64 0, .slice none 0 0] 25 := hw ▸ Box.new _ _ _
            have hh : Below y1.heap.size y1 y2 := hw ▸ (Below.refl _ _).alloc (Nat.le_refl _) _
            have z2 : y1.heap.size < y2.heap.size := hw ▸ (by simp)
            clear hw
            replace hr := FrIs.out_new (hr.rng_ (lo := (w.heap.size + 1 + 1)) (fun _ q => q.elim (fun q => ⟨q.1, Nat.lt_of_lt_of_le q.2 s1⟩) (fun q => ⟨Nat.le_trans (Nat.le_trans HLO.out s0) q.1, q.2⟩))) hh
            replace hV := hV.trans (hh.mono s1)
            have s2 := Nat.le_trans s1 hh.size
            clear hh
            refine wpAny_oneM 4 287 (by kernel_rfl) (by kernel_rfl) (of_decide_eq_true (by kernel_rfl)) (by rfl) ?_
            simp only [List.getD_cons_succ, List.getD_cons_zero]
            go_wp2_with fail
            refine (cpushO ⟨true, 20, l2⟩ 0 (Nat.le_trans HLO.out s2) hg.lt ((HA.out.keep fun _ _ q => hV.block _ q).out_low s1 s2) hr (by have := HN0.out; have := HJ.out; show l0.length < _; omega) (HP.out true).1 (HP.out true).2).mono ?_
            rintro e y3 ⟨⟨LC, lc, rfl, hu⟩, hh⟩
            replace hg := hg.next hh
            replace hV := hV.trans (hh.mono s2)
            have s3 := Nat.le_trans s2 hh.size
            clear hh
            go_wp2_with fail
            refine ⟨fun _ => Ext.below (below_drewL hV) (Nat.le_refl _), ?_⟩
            refine wpAny_go 24 287 [5, 6] 383 3 (by kernel_rfl) (by kernel_rfl) (fun _ _ _ _ _ h => h) (by kernel_rfl) (by rfl) (by rfl) (by kernel_rfl) ?_
            simp only [List.map_cons, List.map_nil, List.getD_cons_succ, List.getD_cons_zero]
            go_wp2_with fail
            change wpAnyM _ _ _ _ _ _ _ _ _ _
            refine wpAny_takeM 7 rfl (by kernel_rfl) (by rfl : 383 ||| 2 ^ 7 = 511) (by kernel_rfl) (by kernel_rfl) (by kernel_rfl) (by kernel_rfl) (fun _ _ _ h => h) (.inl ⟨by rfl, fun w => by (go_simp; try with_reducible rfl)⟩) ?_
            obtain ⟨d0, d1, d2⟩ := three_cells hg
            have df0 := three_free hg 0
            have df1 := three_free hg 1
            have df2 := three_free hg 2
            have hgl := hg.lt
            refine wpAny_go 24 511 [9, 10] 2047 0 (by kernel_rfl) (by kernel_rfl) (fun _ _ _ _ _ h => h) (by kernel_rfl) (by rfl) (by rfl) (by kernel_rfl) ?_
            simp only [List.map_cons, List.map_nil, List.getD_cons_succ, List.getD_cons_zero]
            go_wp2_with fail
            change wpAnyM _ _ _ _ _ _ _ _ _ _
            clear d0 d1 d2
            clear df0 df1 df2
            refine wpAny_endM (by kernel_rfl) (by kernel_rfl) ?_
            go_wp2_with fail
            go_meet
            exact PushPost.mk_ hg hu s1 hV
        ·
          simp only [List.getD_cons_succ, List.getD_cons_zero]
          go_wp2_with fail
          refine ⟨fun h => absurd h (by decide), name_any fun y1 hw => ?_⟩
          have hg : Box y1 y0.heap.size #[.bool false, .int .i64 0, .slice none 0 0] 25 := hw ▸ Box.new _ _ _
          have hh : Below y0.heap.size y0 y1 := hw ▸ (Below.refl _ _).alloc (Nat.le_refl _) _
          have z1 : y0.heap.size < y1.heap.size := hw ▸ (by simp)
          clear hw
          replace hV := hV.trans (hh.mono s0)
          have s1 := Nat.le_trans s0 hh.size
          clear hh
          refine wpAny_oneM 3 271 (by kernel_rfl) (by kernel_rfl) (of_decide_eq_true (by kernel_rfl)) (by rfl) ?_
          simp only [List.getD_cons_succ, List.getD_cons_zero]
          go_wp2_with fail
          refine (capp ((j : Int) + 1) _).mono ?_
          rintro e y2 ⟨rfl, hh⟩
          have hr := appF_on ((j : Int) + 1) y2 (outS y2 (w.heap.size + 1 + 1) y0.heap.size)
          replace hg := hg.next hh
          replace hV := hV.trans (hh.mono s1)
          have s2 := Nat.le_trans s1 hh.size
          clear hh
          go_wp2_with fail
          refine ⟨fun _ => Ext.below (below_drewL hV) (Nat.le_refl _), ?_⟩
          refine wpAny_oneM 4 287 (by kernel_rfl) (by kernel_rfl) (of_decide_eq_true (by kernel_rfl)) (by rfl) ?_
          simp only [List.getD_cons_succ, List.getD_cons_zero]
          go_wp2_with fail
          refine (cpushO ⟨true, 20, l2⟩ 0 (Nat.le_trans HLO.out s2) hg.lt ((HA.out.keep fun _ _ q => hV.block _ q).out_low s0 s2) hr (by have := HN0.out; have := HJ.out; show l0.length < _; omega) (HP.out true).1 (HP.out true).2).mono ?_
          rintro e y3 ⟨⟨LC, lc, rfl, hu⟩, hh⟩
          replace hg := hg.next hh
          replace hV := hV.trans (hh.mono s2)
          have s3 := Nat.le_trans s2 hh.size
          clear hh
          go_wp2_with fail
          refine ⟨fun _ => Ext.below (below_drewL hV) (Nat.le_refl _), ?_⟩
          refine wpAny_go 24 287 [5, 6] 383 3 (by kernel_rfl) (by kernel_rfl) (fun _ _ _ _ _ h => h) (by kernel_rfl) (by rfl) (by rfl) (by kernel_rfl) ?_
          simp only [List.map_cons, List.map_nil, List.getD_cons_succ, List.getD_cons_zero]
          go_wp2_with fail
          change wpAnyM _ _ _ _ _ _ _ _ _ _
          refine wpAny_takeM 7 rfl (by kernel_rfl) (by rfl : 383 ||| 2 ^ 7 = 511) (by kernel_rfl) (by kernel_rfl) (by kernel_rfl) (by kernel_rfl) (fun _ _ _ h => h) (.inl ⟨by rfl, fun w => by (go_simp; try with_reducible rfl)⟩) ?_
          obtain ⟨d0, d1, d2⟩ := three_cells hg
          have df0 := three_free hg 0
          have df1 := three_free hg 1
          have df2 := three_free hg 2
          have hgl := hg.lt
          refine wpAny_go 24 511 [9, 10] 2047 0 (by kernel_rfl) (by kernel_rfl) (fun _ _ _ _ _ h => h) (by kernel_rfl) (by rfl) (by rfl) (by kernel_rfl) ?_
          simp only [List.map_cons, List.map_nil, List.getD_cons_succ, List.getD_cons_zero]
          go_wp2_with fail
          change wpAnyM _ _ _ _ _ _ _ _ _ _
          clear d0 d1 d2
          clear df0 df1 df2
          refine wpAny_endM (by kernel_rfl) (by kernel_rfl) ?_
          go_wp2_with fail
          go_meet
          exact PushPost.mk_ hg hu s0 hV
      case rest =>
        obtain ⟨gx, xA, xc, rfl, rfl, bxx, hx, hgx, hb⟩ := hcut
        obtain ⟨W6, rfl⟩ : ∃ x : World, x = wc := ⟨_, rfl⟩
        clear HA HLO bxr hlo
        dsimp only at bxx hx
        rw [HN2.out] at bxx hx
        replace bx0 := bx0.next hb
        replace bx1 := bx1.next hb
        replace ha := ha.next hb
        replace hb1 := hb1.next hb
        replace hB := hB.trans (hb.mono hB.size)
        clear hb
        have hgx2 := bxx.lt
        go_upto_region 7 with fail
        have hlo : (w.heap.size + 1 + 1) ≤ W6.heap.size := bx1.lt
        have HLO := Lib.hid hlo; have HA := Lib.hid hb1
        have bxr := bx1
        go_cut [11, 12] (fun u x wx => PushPost 25 W6 (w.heap.size + 1 + 1) 0 ⟨false, 20, l2⟩ u x wx)
        case first =>
          have hV := (Below.refl W6.heap.size W6).drew
          replace bxr := bxr.next ((Below.refl _ _).drew)
          refine region_go 24 (by kernel_rfl) ?_
          refine wpAny_go 24 0 [1] 2 10 (by kernel_rfl) (by kernel_rfl) (fun _ _ _ _ _ h => h) (by kernel_rfl) (by rfl) (by rfl) (by kernel_rfl) ?_
          simp only [List.map_cons, List.map_nil, List.getD_cons_succ, List.getD_cons_zero]
          go_wp2_with fail
          change wpAnyM _ _ _ _ _ _ _ _ _ _
          refine wpAny_takeM 2 rfl (by kernel_rfl) (by rfl : 2 ||| 2 ^ 2 = 6) (by kernel_rfl) (by kernel_rfl) (by kernel_rfl) (by kernel_rfl) (fun _ _ _ h => h) (.inl ⟨by rfl, fun w => by (go_simp; try with_reducible rfl)⟩) ?_
          obtain ⟨c0, c1, c2⟩ := three_cells bxr
          refine wpAny_reads 24 6 [0] 7 8 (by kernel_rfl) (by kernel_rfl) (fun _ _ _ _ _ h => h) (by kernel_rfl) (by rfl) (by rfl) (by kernel_rfl) ?_
          simp only [List.map_cons, List.map_nil, List.getD_cons_zero]
          go_wp2_with fail
          change _ → wpAnyM _ _ _ _ _ _ _ _ _ _; intro _
          clear c0 c1 c2
          refine name_any fun y0 hy => ?_
          have s0 : W6.heap.size ≤ y0.heap.size := by rw [← hy]; simp
          rw [hy] at hV
          clear hy bxr
          refine wpAny_twoM 3 8 15 263 (by kernel_rfl) (by kernel_rfl) (of_decide_eq_true (by kernel_rfl)) (of_decide_eq_true (by kernel_rfl)) (by rfl) (by rfl) ?_ ?_
          ·
            simp only [List.getD_cons_succ, List.getD_cons_zero]
            go_wp2_with fail
            refine (capp ((j : Int) + 1) _).mono ?_
            rintro e y1 ⟨rfl, hh⟩
            have hr := appF_on ((j : Int) + 1) y1 (also (rng (w.heap.size + 1 + 1) W6.heap.size) y0.heap.size y1.heap.size)
            replace hV := hV.trans (hh.mono s0)
            have s1 := Nat.le_trans s0 hh.size
            clear hh
            go_wp2_with fail
            refine ⟨fun _ => Ext.below (below_drewL hV) (Nat.le_refl _), ?_⟩
            refine wpAny_twoM 4 8 31 271 (by kernel_rfl) (by kernel_rfl) (of_decide_eq_true (by kernel_rfl)) (of_decide_eq_true (by kernel_rfl)) (by rfl) (by rfl) ?_ ?_
            ·
              simp only [List.getD_cons_succ, List.getD_cons_zero]
              go_wp2_with fail
              refine (cpushI ⟨false, 20, l2⟩ 0 (Nat.le_trans HLO.out s1) ((HA.out.keep fun _ _ q => hV.block _ q).widen (Nat.le_refl _) s1) (hr.rng_ (fun _ q => q.elim (fun q => ⟨q.1, Nat.lt_of_lt_of_le q.2 s1⟩) (fun q => ⟨Nat.le_trans (Nat.le_trans HLO.out s0) q.1, q.2⟩))) (by have := HN0.out; have := HJ.out; show l0.length < _; omega) (HP.out false).1 (HP.out false).2).mono ?_
              rintro e y2 ⟨⟨LC, lc, rfl, hu⟩, hh⟩
              replace hV := hV.trans (hh.mono s1)
              have s2 := Nat.le_trans s1 hh.size
              clear hh
              go_wp2_with fail
              refine ⟨fun _ => Ext.below (below_drewL hV) (Nat.le_refl _), ?_⟩
              refine wpAny_go 24 31 [5, 6] 127 4 (by kernel_rfl) (by kernel_rfl) (fun _ _ _ _ _ h => h) (by kernel_rfl) (by rfl) (by rfl) (by kernel_rfl) ?_
              simp only [List.map_cons, List.map_nil, List.getD_cons_succ, List.getD_cons_zero]
              go_wp2_with fail
              change wpAnyM _ _ _ _ _ _ _ _ _ _
              refine wpAny_takeM 7 rfl (by kernel_rfl) (by rfl : 127 ||| 2 ^ 7 = 255) (by kernel_rfl) (by kernel_rfl) (by kernel_rfl) (by kernel_rfl) (fun _ _ _ h => h) (.inl ⟨by rfl, fun w => by (go_simp; try with_reducible rfl)⟩) ?_
              refine wpAny_oneM 8 511 (by kernel_rfl) (by kernel_rfl) (of_decide_eq_true (by kernel_rfl)) (by rfl) ?_
              simp only [List.getD_cons_succ, List.getD_cons_zero]
              go_wp2_with fail
              refine ⟨fun h => absurd h (by decide), name_any fun y3 hw => ?_⟩
              have hg : Box y3 y2.heap.size #[.bool false, .int .i64 0, .slice none 0 0] 25 := hw ▸ Box.new _ _ _
              have hh : Below y2.heap.size y2 y3 := hw ▸ (Below.refl _ _).alloc (Nat.le_refl _) _
              have z3 : y2.heap.size < y3.heap.size := hw ▸ (by simp)
              clear hw
              replace hu := hu.out_new hh
              replace hV := hV.trans (hh.mono s2)
              have s3 := Nat.le_trans s2 hh.size
              clear hh
              obtain ⟨d0, d1, d2⟩ := three_cells hg
              have df0 := three_free hg 0
              have df1 := three_free hg 1
              have df2 := three_free hg 2
              have hgl := hg.lt
              refine wpAny_go 24 511 [9, 10] 2047 0 (by kernel_rfl) (by kernel_rfl) (fun _ _ _ _ _ h => h) (by kernel_rfl) (by rfl) (by rfl) (by kernel_rfl) ?_
              simp only [List.map_cons, List.map_nil, List.getD_cons_succ, List.getD_cons_zero]
              go_wp2_with fail
              change wpAnyM _ _ _ _ _ _ _ _ _ _
              clear d0 d1 d2
              clear df0 df1 df2
              refine wpAny_endM (by kernel_rfl) (by kernel_rfl) ?_
              go_wp2_with fail
              go_meet
              exact PushPost.mk_ hg hu s2 hV
            ·
              simp only [List.getD_cons_succ, List.getD_cons_zero]
              go_wp2_with fail
              refine ⟨fun h => absurd h (by decide), name_any fun y2 hw => ?_⟩
              have hg : Box y2 y1.heap.size #[.bool false, .int .i64 0, .slice none 0 0] 25 := hw ▸ Box.new _ _ _
              have hh : Below y1.heap.size y1 y2 := hw ▸ (Below.refl _ _).alloc (Nat.le_refl _) _
              have z2 : y1.heap.size < y2.heap.size := hw ▸ (by simp)
              clear hw
              replace hr := FrIs.out_new (hr.rng_ (lo := (w.heap.size + 1 + 1)) (fun _ q => q.elim (fun q => ⟨q.1, Nat.lt_of_lt_of_le q.2 s1⟩) (fun q => ⟨Nat.le_trans (Nat.le_trans HLO.out s0) q.1, q.2⟩))) hh
              replace hV := hV.trans (hh.mono s1)
              have s2 := Nat.le_trans s1 hh.size
              clear hh
              refine wpAny_oneM 4 287 (by kernel_rfl) (by kernel_rfl) (of_decide_eq_true (by kernel_rfl)) (by rfl) ?_
              simp only [List.getD_cons_succ, List.getD_cons_zero]
              go_wp2_with fail
              refine (cpushO ⟨false, 20, l2⟩ 0 (Nat.le_trans HLO.out s2) hg.lt ((HA.out.keep fun _ _ q => hV.block _ q).out_low s1 s2) hr (by have := HN0.out; have := HJ.out; show l0.length < _; omega) (HP.out false).1 (HP.out false).2).mono ?_
              rintro e y3 ⟨⟨LC, lc, rfl, hu⟩, hh⟩
              replace hg := hg.next hh
              replace hV := hV.trans (hh.mono s2)
              have s3 := Nat.le_trans s2 hh.size
              clear hh
              go_wp2_with fail
              refine ⟨fun _ => Ext.below (below_drewL hV) (Nat.le_refl _), ?_⟩
              refine wpAny_go 24 287 [5, 6] 383 3 (by kernel_rfl) (by kernel_rfl) (fun _ _ _ _ _ h => h) (by kernel_rfl) (by rfl) (by rfl) (by kernel_rfl) ?_
              simp only [List.map_cons, List.map_nil, List.getD_cons_succ, List.getD_cons_zero]
              go_wp2_with fail
              change wpAnyM _ _ _ _ _ _ _ _ _ _
              refine wpAny_takeM 7 rfl (by kernel_rfl) (by rfl : 383 ||| 2 ^ 7 = 511) (by kernel_rfl) (by kernel_rfl) (by kernel_rfl) (by kernel_rfl) (fun _ _ _ h => h) (.inl ⟨by rfl, fun w => by (go_simp; try with_reducible rfl)⟩) ?_
              obtain ⟨d0, d1, d2⟩ := three_cells hg
              have df0 := three_free hg 0
              have df1 := three_free hg 1
              have df2 := three_free hg 2
              have hgl := hg.lt
              refine wpAny_go 24 511 [9, 10] 2047 0 (by kernel_rfl) (by kernel_rfl) (fun _ _ _ _ _ h => h) (by kernel_rfl) (by rfl) (by rfl) (by kernel_rfl) ?_
              simp only [List.map_cons, List.map_nil, List.getD_cons_succ, List.getD_cons_zero]
              go_wp2_with fail
              change wpAnyM _ _ _ _ _ _ _ _ _ _
              clear d0 d1 d2
              clear df0 df1 df2
              refine wpAny_endM (by kernel_rfl) (by kernel_rfl) ?_
              go_wp2_with fail
              go_meet
              exact PushPost.mk_ hg hu s1 hV
          ·
            simp only [List.getD_cons_succ, List.getD_cons_zero]
            go_wp2_with fail
            refine ⟨fun h => absurd h (by decide), name_any fun y1 hw => ?_⟩
            have hg : Box y1 y0.heap.size #[.bool false, .int .i64 0, .slice none 0 0] 25 := hw ▸ Box.new _ _ _
            have hh : Below y0.heap.size y0 y1 := hw ▸ (Below.refl _ _).alloc (Nat.le_refl _) _
            have z1 : y0.heap.size < y1.heap.size := hw ▸ (by simp)
            clear hw
            replace hV := hV.trans (hh.mono s0)
            have s1 := Nat.le_trans s0 hh.size
            clear hh
            refine wpAny_oneM 3 271 (by kernel_rfl) (by kernel_rfl) (of_decide_eq_true (by kernel_rfl)) (by rfl) ?_
            simp only [List.getD_cons_succ, List.getD_cons_zero]
            go_wp2_with fail
            refine (capp ((j : Int) + 1) _).mono ?_
            rintro e y2 ⟨rfl, hh⟩
            have hr := appF_on ((j : Int) + 1) y2 (outS y2 (w.heap.size + 1 + 1) y0.heap.size)
            replace hg := hg.next hh
            replace hV := hV.trans (hh.mono s1)
            have s2 := Nat.le_trans s1 hh.size
            clear hh
            go_wp2_with fail
            refine ⟨fun _ => Ext.below (below_drewL hV) (Nat.le_refl _), ?_⟩
            refine wpAny_oneM 4 287 (by kernel_rfl) (by kernel_rfl) (of_decide_eq_true (by kernel_rfl)) (by rfl) ?_
            simp only [List.getD_cons_succ, List.getD_cons_zero]
            go_wp2_with fail
            refine (cpushO ⟨false, 20, l2⟩ 0 (Nat.le_trans HLO.out s2) hg.lt ((HA.out.keep fun _ _ q => hV.block _ q).out_low s0 s2) hr (by have := HN0.out; have := HJ.out; show l0.length < _; omega) (HP.out false).1 (HP.out false).2).mono ?_
            rintro e y3 ⟨⟨LC, lc, rfl, hu⟩, hh⟩
            replace hg := hg.next hh
            replace hV := hV.trans (hh.mono s2)
            have s3 := Nat.le_trans s2 hh.size
            clear hh
            go_wp2_with fail
            refine ⟨fun _ => Ext.below (below_drewL hV) (Nat.le_refl _), ?_⟩
            refine wpAny_go 24 287 [5, 6] 383 3 (by kernel_rfl) (by kernel_rfl) (fun _ _ _ _ _ h => h) (by kernel_rfl) (by rfl) (by rfl) (by kernel_rfl) ?_
            simp only [List.map_cons, List.map_nil, List.getD_cons_succ, List.getD_cons_zero]
            go_wp2_with fail
            change wpAnyM _ _ _ _ _ _ _ _ _ _
            refine wpAny_takeM 7 rfl (by kernel_rfl) (by rfl : 383 ||| 2 ^ 7 = 511) (by kernel_rfl) (by kernel_rfl) (by kernel_rfl) (by kernel_rfl) (fun _ _ _ h => h) (.inl ⟨by rfl, fun w => by (go_simp; try with_reducible rfl)⟩) ?_
            obtain ⟨d0, d1, d2⟩ := three_cells hg
            have df0 := three_free hg 0
            have df1 := three_free hg 1
            have df2 := three_free hg 2
            have hgl := hg.lt
            refine wpAny_go 24 511 [9, 10] 2047 0 (by kernel_rfl) (by kernel_rfl) (fun _ _ _ _ _ h => h) (by kernel_rfl) (by rfl) (by rfl) (by kernel_rfl) ?_
            simp only [List.map_cons, List.map_nil, List.getD_cons_succ, List.getD_cons_zero]
            go_wp2_with fail
            change wpAnyM _ _ _ _ _ _ _ _ _ _
            clear d0 d1 d2
            clear df0 df1 df2
            refine wpAny_endM (by kernel_rfl) (by kernel_rfl) ?_
            go_wp2_with fail
            go_meet
            exact PushPost.mk_ hg hu s0 hV
        case rest =>
          obtain ⟨gy, yA, yc, rfl, rfl, bxy, hy, hgy, hb⟩ := hcut
          obtain ⟨W7, rfl⟩ : ∃ x : World, x = wc := ⟨_, rfl⟩
          clear HA HLO bxr hlo
          dsimp only at bxy hy
          rw [HN2.out] at bxy hy
          replace bx0 := bx0.next hb
          replace bx1 := bx1.next hb
          replace ha := ha.next hb
          replace hb1 := hb1.next hb
          replace bxx := bxx.next hb
          replace hx := hx.next hb
          replace hB := hB.trans (hb.mono hB.size)
          clear hb
          have HG := Lib.hid (show (w.heap.size + 1 + 1) ≤ gx ∧ (w.heap.size + 1 + 1) ≤ gy ∧ gx ≠ gy from ⟨by omega, by omega, by omega⟩)
          clear ha hb1
          have HX := Lib.hid hx; have HY := Lib.hid hy; have HB := Lib.hid hB; clear hx hy hB
          obtain ⟨d0, d1, d2⟩ := three_cells bxx
          obtain ⟨t0, t1, t2⟩ := three_cells bx0
          have tf0 := three_free bx0 0
          have tf1 := three_free bx0 1
          have tf2 := three_free bx0 2
          have hl0 := bxx.lt; have hl1 := bx0.lt
          go_upto_region 11 with fail
          clear d0 d1 d2
          clear t0 t1 t2
          clear tf0 tf1 tf2
          clear hl0 hl1
          refine name_wp fun W8 hW8 => ?_
          have q0 : Box W8 w.heap.size #[.bool true, .int .i64 20, .slice xA (j + 1) xc] 25 := by rw [← hW8]; exact blk_set (blk_set (blk_set bx0 0 _) 1 _) 2 _
          have q1 : Box W8 (w.heap.size + 1) #[.bool false, .int .i64 20, .slice VA j vc] 25 := by rw [← hW8]; exact (three_other (by omega)).trans bx1
          have q2 : Box W8 gy #[.bool false, .int .i64 20, .slice yA (j + 1) yc] 25 := by rw [← hW8]; exact (three_other (by have h := HG.out; omega)).trans bxy
          have q3 : LaIs false W8 (w.heap.size + 1 + 1) W8.heap.size (.agg #[.bool true, .int .i64 20, .slice xA (j + 1) xc]) ⟨true, 20, l2⟩ := by rw [← hW8]; exact (HX.out.keep fun k h1 _ => three_other (by omega)).widen (Nat.le_refl _) (Nat.le_of_eq three_size.symm)
          have q4 : LaIs false W8 (w.heap.size + 1 + 1) W8.heap.size (.agg #[.bool false, .int .i64 20, .slice yA (j + 1) yc]) ⟨false, 20, l2⟩ := by rw [← hW8]; exact (HY.out.keep fun k h1 _ => three_other (by omega)).widen (Nat.le_refl _) (Nat.le_of_eq three_size.symm)
          have q5 : Below w.heap.size w W8 := by rw [← hW8]; exact ((HB.out.setCell (by simp) _).setCell (by simp) _).setCell (by simp) _
          clear hW8 bx0 bx1 bxx bxy HX HY HB
          obtain ⟨d0, d1, d2⟩ := three_cells q2
          obtain ⟨t0, t1, t2⟩ := three_cells q1
          have tf0 := three_free q1 0
          have tf1 := three_free q1 1
          have tf2 := three_free q1 2
          have hl0 := q2.lt; have hl1 := q1.lt
          have HX := Lib.hid q3; have HY := Lib.hid q4; have HB := Lib.hid q5; have HQ0 := Lib.hid q0; clear q0 q3 q4 q5
          go_wp2_with fail
          clear d0 d1 d2
          clear t0 t1 t2
          clear tf0 tf1 tf2
          clear hl0 hl1
          go_roundg (m - (j + 1))
          case rel => exact ⟨j + 1, xA, yA, xc, yc, by simp, by omega, rfl, (three_other (by omega)).trans HQ0.out, blk_set (blk_set (blk_set q1 0 _) 1 _) 2 _, by rw [HL2.out]; exact (HX.out.keep fun k h1 _ => three_other (by omega)).widen (Nat.le_refl _) (Nat.le_of_eq three_size.symm), by rw [HL2.out]; exact (HY.out.keep fun k h1 _ => three_other (by omega)).widen (Nat.le_refl _) (Nat.le_of_eq three_size.symm), ((HB.out.setCell (by simp) _).setCell (by simp) _).setCell (by simp) _⟩
          case measure => have := HK.out; omega
    ·
      have hjm : j = m := by omega
      subst hjm
      clear HK
      obtain ⟨W12, rfl⟩ : ∃ x : World, x = wr := ⟨_, rfl⟩
      obtain ⟨i0, hi0, hz0, hz1, hz2⟩ := info_parts Try.infoBool
      have hn1 : ((j : Int) + 1).toNat = j + 1 := by omega
      have hmk : ∀ w2 : World, (Instr.makeSlice 71 (.int .i64 ((j : Int) + 1)) (.int .i64 ((j : Int) + 1))).run Try.prog w2 = _ := fun w2 => run_make (P := Try.prog) w2 71 4 i0 _ Try.underlying71 hi0 hz0 .i64 .i64 ((j : Int) + 1) ((j : Int) + 1) (by omega) (Int.le_refl _) (by rw [hz2]; omega) (by omega)
      simp only [hn1, hz1, made_bools] at hmk
      clear hi0 hz0 hz1 hz2 hn1
      go_upto_region 13 with fail
      clear hmk
      refine name_wp fun W13 hW13 => ?_
      have bs : Box W13 W12.heap.size (cellsB (List.replicate (j + 1) false)) 4 := hW13 ▸ Box.new _ _ _
      have hb : Below W12.heap.size W12 W13 := hW13 ▸ (Below.refl _ _).alloc (Nat.le_refl _) _
      clear hW13
      have HGS := Lib.hid (show (w.heap.size + 1 + 1) ≤ W12.heap.size from bx1.lt)
      replace bx0 := bx0.next hb; replace bx1 := bx1.next hb
      have ha2 := ha.out_of hb; have hb2 := hb1.out_of hb
      replace hB := hB.trans (hb.mono hB.size)
      clear hb ha hb1
      go_wp2_with fail
      go_loopg [14] j (fun kk iv wr => ∃ (i d : Nat) (qs : List Nat) (sn : List Bool) (UA VA : Option Addr) (uc vc : Nat), iv = .int .i64 (i : Int) ∧ i + d = j ∧ kk = d ∧ qs.length = d ∧ Left j qs sn ∧ Box wr w.heap.size #[.bool true, .int .i64 20, .slice UA d uc] 25 ∧ Box wr (w.heap.size + 1) #[.bool false, .int .i64 20, .slice VA d vc] 25 ∧ Box wr W12.heap.size (cellsB sn) 4 ∧ LaO wr (w.heap.size + 1 + 1) W12.heap.size (.agg #[.bool true, .int .i64 20, .slice UA d uc]) ⟨true, 20, appsOf ((upto j).drop i)⟩ ∧ LaO wr (w.heap.size + 1 + 1) W12.heap.size (.agg #[.bool false, .int .i64 20, .slice VA d vc]) ⟨false, 20, appsOf qs⟩ ∧ Below w.heap.size w wr)
      case atStart => exact ⟨0, j, upto j, List.replicate (j + 1) false, _, _, _, _, rfl, by omega, rfl, upto_len j, Left.begin0 j, bx0, bx1, bs, ha2, hb2, hB⟩
      case round =>
        clear bx0 bx1 bs ha2 hb2 hB
        obtain ⟨i, d, qs, sn, UA2, VA2, uc2, vc2, rfl, hid, hkd, hqs, hL, bx0, bx1, bs, ha, hb2, hB⟩ := hrel
        have HKD := Lib.hid hkd; clear hkd
        have HID := Lib.hid hid; have HQS := Lib.hid hqs; have HL := Lib.hid hL; clear hid hqs hL
        by_cases hlt : i < j
        ·
          obtain ⟨d1, hd1⟩ : ∃ d1, d = d1 + 1 := ⟨d - 1, by have := HID.out; omega⟩
          subst hd1
          obtain ⟨lA, hlA⟩ : ∃ l, appsOf ((upto j).drop (i + 1)) = l := ⟨_, rfl⟩
          have htk := take_fifo (cp := 20) hlt
          rw [hlA] at htk
          have hlAn : lA.length = d1 := by rw [← hlA, appsOf_len, List.length_drop, upto_len]; have := HID.out; omega
          have HTK := Lib.hid htk; have HLA := Lib.hid hlA; have HLAN := Lib.hid hlAn; clear htk hlA hlAn
          obtain ⟨d0, d1, d2⟩ := three_cells bx0
          have hl0 := bx0.lt
          go_wp2_with fail
          clear d0 d1 d2
          clear hl0
          have hgs := bs.lt
          have hlo := Nat.le_trans HGS.out (Nat.le_of_lt hgs)
          refine (ctakeO (appF ((i : Int) + 1)) ⟨true, 20, lA⟩ 0 0 hlo hgs ha (by rw [appsOf_len, List.length_drop, upto_len]; omega) HTK.out.1 HTK.out.2.1 HTK.out.2.2).mono ?_
          rintro e w1 ⟨⟨XA, xk, XB, xl, CA, cc, rfl, _, hc⟩, hb⟩
          dsimp only [appF, List.length_nil] at hc ⊢
          rw [HLAN.out] at hc ⊢
          replace bx0 := bx0.next hb; replace bx1 := bx1.next hb; replace bs := bs.next hb; replace hb2 := hb2.next hb; replace hB := hB.trans (hb.mono hB.size)
          clear hb ha
          have HW1 := Lib.hid bs.lt
          go_upto_region 18 with fail
          refine name_wp fun W17 hW17 => ?_
          have bxx : Box W17 (w1.heap.size) #[.int .i64 0, .int .i64 0, .int .i64 ((i : Int) + 1), .int .i64 0, .slice XA 0 xk, .int .i64 0, .int .i64 0, .int .i64 0, .slice XB 0 xl] 37 := hW17 ▸ ((Box.new' #[.int .i64 0, .int .i64 0, .int .i64 ((i : Int) + 1), .int .i64 0, .slice XA 0 xk, .int .i64 0, .int .i64 0, .int .i64 0, .slice XB 0 xl] 37 (by simp)).alloc _)
          have bxc : Box W17 (w1.heap.size + 1) #[.bool true, .int .i64 20, .slice CA d1 cc] 25 := hW17 ▸ (Box.new' #[.bool true, .int .i64 20, .slice CA d1 cc] 25 (by simp))
          have hb : Below w1.heap.size w1 W17 := hW17 ▸ (((Below.refl _ _).alloc (by first | (simp; done) | (simp; omega)) _).alloc (by first | (simp; done) | (simp; omega)) _)
          clear hW17
          replace bx0 := bx0.next hb
          replace bx1 := bx1.next hb
          replace bs := bs.next hb
          replace hb2 := hb2.next hb
          replace hc := hc.next hb
          replace hB := hB.trans (hb.mono hB.size)
          clear hb

          by_cases hps : i < ps.length
          ·
            obtain ⟨pv, hpv⟩ := Pc.get_at hps
            obtain ⟨g, po, hA, hg, hc0, hp0, hp255⟩ := HAT.out.byte hpv
            subst hA
            have ci := (cell_of_block (hB.block g hg)).trans hc0
            have hgc : g < W17.heap.size := Nat.lt_of_lt_of_le hg hB.size
            have hdm : (i : Int) + ((d1 : Int) + 1) = (j : Int) := by have := HID.out; omega
            have hmi : (j : Int) - (i : Int) = (d1 : Int) + 1 := by omega
            have hnz : (d1 : Int) + 1 ≠ 0 := by omega
            go_upto_region 20 with fail
            obtain ⟨kn, hkn, hkl⟩ : ∃ kn : Nat, (pv % ((d1 : Int) + 1)) = (kn : Int) ∧ kn < d1 + 1 := ⟨(pv % ((d1 : Int) + 1)).toNat, by have := Int.emod_nonneg pv hnz; omega, by have h1 := Int.emod_nonneg pv hnz; have h2 := Int.emod_lt_of_pos pv (show (0 : Int) < (d1 : Int) + 1 by omega); omega⟩
            have hkq : kn < qs.length := by rw [HQS.out]; exact hkl
            obtain ⟨q, hq⟩ : ∃ q, qs[kn] = q := ⟨_, rfl⟩
            obtain ⟨qs2, hqs2⟩ : ∃ l, qs.take kn ++ qs.drop (kn + 1) = l := ⟨_, rfl⟩
            have hql : qs2.length = d1 := by rw [← hqs2, List.length_append, List.length_take, List.length_drop, HQS.out]; omega
            have htf := take_free (cp := 20) hkq
            have hlf := HL.out.take hkq
            rw [hq, hqs2] at htf hlf
            rw [← hkn] at htf
            obtain ⟨lB, hlB⟩ : ∃ l, appsOf qs2 = l := ⟨_, rfl⟩
            rw [hlB] at htf
            have hlBn : lB.length = d1 := by rw [← hlB, appsOf_len]; exact hql
            have HTF := Lib.hid htf; have HLF := Lib.hid hlf.1; have HQ1 := Lib.hid hlf.2.1; have HSN := Lib.hid hlf.2.2; have HLB := Lib.hid hlB; have HLBN := Lib.hid hlBn; have HQL := Lib.hid hql
            clear htf hlf hlB hlBn hql hqs2 hq hkq hkl hkn ci hgc hdm hmi hnz hc0
            have hgs := bs.lt
            have hlo := Nat.le_trans HGS.out (Nat.le_of_lt hgs)
            obtain ⟨d0, d1, d2⟩ := three_cells bx1
            have hl0 := bx1.lt
            go_wp2_with fail
            clear d0 d1 d2
            clear hl0
            refine (ctakeO (appF (q : Int)) ⟨false, 20, lB⟩ 0 (pv % ((d1 : Int) + 1)) hlo hgs hb2 (by rw [appsOf_len, HQS.out]; have := HID.out; omega) HTF.out.1 HTF.out.2.1 HTF.out.2.2).mono ?_
            rintro e w2 ⟨⟨YA, yk, YB, yl, CB, cb, rfl, _, hd⟩, hb⟩
            dsimp only [appF, List.length_nil] at hd ⊢
            rw [HLBN.out] at hd ⊢
            have HW2a := Lib.hid (Nat.lt_of_lt_of_le bxc.lt hb.size)
            replace bx0 := bx0.next hb
            replace bx1 := bx1.next hb
            replace bs := bs.next hb
            replace hc := hc.next hb
            replace bxx := bxx.next hb
            replace bxc := bxc.next hb
            replace hB := hB.trans (hb.mono hB.size)
            clear hb hb2 hgs hlo
            go_upto_region 21 with fail
            refine name_wp fun W20 hW20 => ?_
            have bxy : Box W20 (w2.heap.size) #[.int .i64 0, .int .i64 0, .int .i64 (q : Int), .int .i64 0, .slice YA 0 yk, .int .i64 0, .int .i64 0, .int .i64 0, .slice YB 0 yl] 37 := hW20 ▸ ((Box.new' #[.int .i64 0, .int .i64 0, .int .i64 (q : Int), .int .i64 0, .slice YA 0 yk, .int .i64 0, .int .i64 0, .int .i64 0, .slice YB 0 yl] 37 (by simp)).alloc _)
            have bxd : Box W20 (w2.heap.size + 1) #[.bool false, .int .i64 20, .slice CB d1 cb] 25 := hW20 ▸ (Box.new' #[.bool false, .int .i64 20, .slice CB d1 cb] 25 (by simp))
            have hb : Below w2.heap.size w2 W20 := hW20 ▸ (((Below.refl _ _).alloc (by first | (simp; done) | (simp; omega)) _).alloc (by first | (simp; done) | (simp; omega)) _)
            clear hW20
            replace bx0 := bx0.next hb
            replace bx1 := bx1.next hb
            replace bs := bs.next hb
            replace hc := hc.next hb
            replace bxx := bxx.next hb
            replace bxc := bxc.next hb
            replace hd := hd.next hb
            replace hB := hB.trans (hb.mono hB.size)
            clear hb
            have hq1 : ¬ ((q : Int) < 1) := by have := HQ1.out; omega
            have hq2 : ¬ ((q : Int) > (j : Int)) := by have := HQ1.out; omega
            have hq3 : (q : Int) < (j : Int) + 1 := by have := HQ1.out; omega
            have hq4 : q < j + 1 := by have := HQ1.out; omega
            have s1 : (((i : Int) + 1) != ((i : Int) + 1)) = false := by simp
            have cs := cellsB_cell bs HSN.out
            have fs : W20.frozen? ⟨W12.heap.size, q, none⟩ = false := by have h : W20.heap[W12.heap.size]? = _ := bs; simp [World.frozen?, h]
            have hgs := bs.lt
            obtain ⟨c0, c1, c2, c3, c4, c5, c6, c7, c8⟩ := nine_cells bxx
            obtain ⟨g0, g1, g2, g3, g4, g5, g6, g7, g8⟩ := nine_cells bxy
            have hl0 := bxx.lt; have hl1 := bxy.lt
            go_upto_region 24 with fail
            clear c0 c1 c2 c3 c4 c5 c6 c7 c8
            clear g0 g1 g2 g3 g4 g5 g6 g7 g8
            clear hl0 hl1 hgs cs fs s1 bxx bxy
            have HW2 := Lib.hid (show w1.heap.size + 1 < w2.heap.size from HW2a.out)
            refine name_wp fun V1 hV1 => ?_
            have a0 : Box V1 w.heap.size #[.bool true, .int .i64 20, .slice UA2 (d1 + 1) uc2] 25 := by rw [← hV1]; exact (heap_setCell_other _ _ _ _ (by have h := HGS.out; have h1 := HW1.out; have h2 := HW2.out; simp; omega)).trans bx0
            have a1 : Box V1 (w.heap.size + 1) #[.bool false, .int .i64 20, .slice VA2 (d1 + 1) vc2] 25 := by rw [← hV1]; exact (heap_setCell_other _ _ _ _ (by have h := HGS.out; have h1 := HW1.out; have h2 := HW2.out; simp; omega)).trans bx1
            have a2 : Box V1 (w1.heap.size + 1) #[.bool true, .int .i64 20, .slice CA d1 cc] 25 := by rw [← hV1]; exact (heap_setCell_other _ _ _ _ (by have h := HGS.out; have h1 := HW1.out; have h2 := HW2.out; simp; omega)).trans bxc
            have a3 : Box V1 (w2.heap.size + 1) #[.bool false, .int .i64 20, .slice CB d1 cb] 25 := by rw [← hV1]; exact (heap_setCell_other _ _ _ _ (by have h := HGS.out; have h1 := HW1.out; have h2 := HW2.out; simp; omega)).trans bxd
            have a4 : Box V1 W12.heap.size (cellsB (sn.set q true)) 4 := by rw [← hV1, ← cellsB_set]; exact blk_set bs q _
            have a5 : LaO V1 (w.heap.size + 1 + 1) W12.heap.size (.agg #[.bool true, .int .i64 20, .slice CA d1 cc]) ⟨true, 20, lA⟩ := by rw [← hV1]; exact hc.move (fun k _ _ h => heap_setCell_other _ _ _ _ h) (Nat.le_of_eq (World.size_setCell ..).symm)
            have a6 : LaO V1 (w.heap.size + 1 + 1) W12.heap.size (.agg #[.bool false, .int .i64 20, .slice CB d1 cb]) ⟨false, 20, lB⟩ := by rw [← hV1]; exact hd.move (fun k _ _ h => heap_setCell_other _ _ _ _ h) (Nat.le_of_eq (World.size_setCell ..).symm)
            have a7 : Below w.heap.size w V1 := by rw [← hV1]; exact hB.setCell (by have h := HGS.out; simp; omega) _
            clear hV1 bx0 bx1 bs bxc bxd hc hd hB
            have HC := Lib.hid a5; have HD := Lib.hid a6; have HB := Lib.hid a7; have HS := Lib.hid a4; clear a4 a5 a6 a7
            obtain ⟨d0, d1, d2⟩ := three_cells a2
            obtain ⟨t0, t1, t2⟩ := three_cells a0
            have tf0 := three_free a0 0
            have tf1 := three_free a0 1
            have tf2 := three_free a0 2
            have hl0 := a2.lt; have hl1 := a0.lt
            go_upto_region 25 with fail
            clear d0 d1 d2
            clear t0 t1 t2
            clear tf0 tf1 tf2
            clear hl0 hl1
            refine name_wp fun V2 hV2 => ?_
            have b0 : Box V2 w.heap.size #[.bool true, .int .i64 20, .slice CA d1 cc] 25 := by rw [← hV2]; exact blk_set (blk_set (blk_set a0 0 _) 1 _) 2 _
            have b1 : Box V2 (w.heap.size + 1) #[.bool false, .int .i64 20, .slice VA2 (d1 + 1) vc2] 25 := by rw [← hV2]; exact (three_other (by omega)).trans a1
            have b3 : Box V2 (w2.heap.size + 1) #[.bool false, .int .i64 20, .slice CB d1 cb] 25 := by rw [← hV2]; exact (three_other (by have h := HGS.out; have h1 := HW1.out; have h2 := HW2.out; omega)).trans a3
            have b4 : Box V2 W12.heap.size (cellsB (sn.set q true)) 4 := by rw [← hV2]; exact (three_other (by have h := HGS.out; have h1 := HW1.out; have h2 := HW2.out; omega)).trans HS.out
            have b5 : LaO V2 (w.heap.size + 1 + 1) W12.heap.size (.agg #[.bool true, .int .i64 20, .slice CA d1 cc]) ⟨true, 20, lA⟩ := by rw [← hV2]; exact HC.out.move (fun k h _ _ => three_other (by omega)) (Nat.le_of_eq three_size.symm)
            have b6 : LaO V2 (w.heap.size + 1 + 1) W12.heap.size (.agg #[.bool false, .int .i64 20, .slice CB d1 cb]) ⟨false, 20, lB⟩ := by rw [← hV2]; exact HD.out.move (fun k h _ _ => three_other (by omega)) (Nat.le_of_eq three_size.symm)
            have b7 : Below w.heap.size w V2 := by rw [← hV2]; exact ((HB.out.setCell (by simp) _).setCell (by simp) _).setCell (by simp) _
            clear hV2 a0 a1 a2 a3 HC HD HB HS
            have HC := Lib.hid b5; have HD := Lib.hid b6; have HB := Lib.hid b7; have HS := Lib.hid b4; have HB0 := Lib.hid b0; clear b0 b4 b5 b6 b7
            obtain ⟨d0, d1, d2⟩ := three_cells b3
            obtain ⟨t0, t1, t2⟩ := three_cells b1
            have tf0 := three_free b1 0
            have tf1 := three_free b1 1
            have tf2 := three_free b1 2
            have hl0 := b3.lt; have hl1 := b1.lt
            go_upto_region 26 with fail
            clear d0 d1 d2
            clear t0 t1 t2
            clear tf0 tf1 tf2
            clear hl0 hl1
            refine name_wp fun V3 hV3 => ?_
            have e0 : Box V3 w.heap.size #[.bool true, .int .i64 20, .slice CA d1 cc] 25 := by rw [← hV3]; exact (three_other (by omega)).trans HB0.out
            have e1 : Box V3 (w.heap.size + 1) #[.bool false, .int .i64 20, .slice CB d1 cb] 25 := by rw [← hV3]; exact blk_set (blk_set (blk_set b1 0 _) 1 _) 2 _
            have e4 : Box V3 W12.heap.size (cellsB (sn.set q true)) 4 := by rw [← hV3]; exact (three_other (by have h := HGS.out; have h1 := HW1.out; have h2 := HW2.out; omega)).trans HS.out
            have e5 : LaO V3 (w.heap.size + 1 + 1) W12.heap.size (.agg #[.bool true, .int .i64 20, .slice CA d1 cc]) ⟨true, 20, lA⟩ := by rw [← hV3]; exact HC.out.move (fun k h _ _ => three_other (by omega)) (Nat.le_of_eq three_size.symm)
            have e6 : LaO V3 (w.heap.size + 1 + 1) W12.heap.size (.agg #[.bool false, .int .i64 20, .slice CB d1 cb]) ⟨false, 20, lB⟩ := by rw [← hV3]; exact HD.out.move (fun k h _ _ => three_other (by omega)) (Nat.le_of_eq three_size.symm)
            have e7 : Below w.heap.size w V3 := by rw [← hV3]; exact ((HB.out.setCell (by simp) _).setCell (by simp) _).setCell (by simp) _
            clear hV3 b1 b3 HC HD HB HS HB0
            obtain ⟨ms, hms⟩ : ∃ l, qs2.map (fun (q : Nat) => ((q : Int), (0 : Int))) = l := ⟨_, rfl⟩
            have hml : ms.length = d1 := by rw [← hms, List.length_map]; exact HQL.out
            have HMS := Lib.hid hms; have HML := Lib.hid hml; clear hms hml
            have e8 := e6.is_
            obtain ⟨d0, d1, d2⟩ := three_cells e1
            have hl0 := e1.lt
            go_wp2_with fail
            clear d0 d1 d2
            clear hl0
            refine (clamsgs (xs := ms) e8 (by have := HLBN.out; have := HID.out; show lB.length ≤ _; omega) (by rw [← HLB.out, msgs_apps]; exact HMS.out)).mono ?_
            rintro e w5 ⟨⟨MA, mc, rfl, hm5⟩, hb⟩
            rw [HML.out] at hm5 ⊢
            replace e0 := e0.next hb; replace e1 := e1.next hb; replace e4 := e4.next hb; replace e5 := e5.next hb; replace e6 := e6.next hb; replace e7 := e7.trans (hb.mono e7.size)
            clear hb e8
            have HM5 := Lib.hid hm5; have H0 := Lib.hid e0; have H1 := Lib.hid e1; have H4 := Lib.hid e4; have H5 := Lib.hid e5; have H6 := Lib.hid e6; have H7 := Lib.hid e7; clear hm5 e0 e1 e4 e5 e6 e7
            go_wp2_with fail
            go_loopg [23] d1 (fun mm jv wx => ∃ t : Nat, jv = .int .i64 ((t : Int) + 1) ∧ t ≤ d1 ∧ mm = d1 - t ∧ Quiet w5 wx)
            case atStart => exact ⟨0, rfl, by omega, by omega, Quiet.refl _⟩
            case round =>
              obtain ⟨t, rfl, ht, hmm, hQ⟩ := hrel
              have HMM := Lib.hid hmm; clear hmm
              by_cases htl : t + 1 < d1
              ·
                have htl0 : (t : Int) + 1 < (d1 : Int) := by omega
                have hd20 : d1 < 20 := by have := HID.out; omega
                have hx1 : t < qs2.length := by rw [HQL.out]; omega
                have hx2 : t + 1 < qs2.length := by rw [HQL.out]; omega
                obtain ⟨u1, hu1⟩ : ∃ u, qs2[t] = u := ⟨_, rfl⟩
                obtain ⟨u2, hu2⟩ : ∃ u, qs2[t + 1] = u := ⟨_, rfl⟩
                have hlt12 : u1 < u2 := by rw [← hu1, ← hu2]; exact (List.pairwise_iff_getElem.1 HLF.out.lt) t (t + 1) hx1 hx2 (by omega)
                have hg1 : ms[t]? = some ((u1 : Int), (0 : Int)) := by rw [← HMS.out]; simp [hu1, hx1]
                have hg2 : ms[t + 1]? = some ((u2 : Int), (0 : Int)) := by rw [← HMS.out]; simp [hu2, hx2]
                have hat5 := (HM5.out.arr.keep (fun b _ _ => by rw [hQ.heap]) : SliceAt Rep.msg false wr 0 _ MA ms)
                obtain ⟨g5, o5, hma, _, hg5, m0, _⟩ := hat5.msg hg1
                obtain ⟨g6, o6, hma2, _, _, m2, _⟩ := hat5.msg hg2
                subst hma
                injection hma2 with hma2; injection hma2 with e1 e2 _; subst e1 e2
                dsimp only at m0 m2
                have hge : decide ((u1 : Int) ≥ (u2 : Int)) = false := decide_eq_false (by omega)
                have hge2 : ¬ ((u1 : Int) ≥ (u2 : Int)) := by omega
                have hge3 : decide (u2 ≤ u1) = false := decide_eq_false (by omega)
                clear hg1 hg2 hat5 hu1 hu2 hx1 hx2
                go_wp2_with fail
                have htl1 : t < d1 := by omega
                go_quiet (fail)
                clear htl1
                go_wp2_with fail
                go_roundg (d1 - (t + 1))
                case rel => exact ⟨t + 1, by simp, by omega, rfl, hQ.drewN _⟩
                case measure => have := HMM.out; omega
              ·
                have htl0 : ¬ ((t : Int) + 1 < (d1 : Int)) := by omega
                have hV : Below w5.heap.size w5 _ := hQ.below
                have HV := Lib.hid hV; clear hV hQ
                go_wp2_with fail
                go_roundg d1
                case rel => exact ⟨i + 1, d1, qs2, sn.set q true, CA, CB, cc, cb, by simp, by have := HID.out; omega, rfl, HQL.out, HLF.out, H0.out.next HV.out, H1.out.next HV.out, H4.out.next HV.out, by rw [HLA.out]; exact H5.out.next HV.out, by rw [HLB.out]; exact H6.out.next HV.out, H7.out.trans (HV.out.mono H7.out.size)⟩
                case measure => have := HKD.out; omega
          ·
            go_upto_region 20 with fail
            obtain ⟨kn, hkn, hkl⟩ : ∃ kn : Nat, (0 : Int) = (kn : Int) ∧ kn < d1 + 1 := ⟨0, rfl, by omega⟩
            have hkq : kn < qs.length := by rw [HQS.out]; exact hkl
            obtain ⟨q, hq⟩ : ∃ q, qs[kn] = q := ⟨_, rfl⟩
            obtain ⟨qs2, hqs2⟩ : ∃ l, qs.take kn ++ qs.drop (kn + 1) = l := ⟨_, rfl⟩
            have hql : qs2.length = d1 := by rw [← hqs2, List.length_append, List.length_take, List.length_drop, HQS.out]; omega
            have htf := take_free (cp := 20) hkq
            have hlf := HL.out.take hkq
            rw [hq, hqs2] at htf hlf
            rw [← hkn] at htf
            obtain ⟨lB, hlB⟩ : ∃ l, appsOf qs2 = l := ⟨_, rfl⟩
            rw [hlB] at htf
            have hlBn : lB.length = d1 := by rw [← hlB, appsOf_len]; exact hql
            have HTF := Lib.hid htf; have HLF := Lib.hid hlf.1; have HQ1 := Lib.hid hlf.2.1; have HSN := Lib.hid hlf.2.2; have HLB := Lib.hid hlB; have HLBN := Lib.hid hlBn; have HQL := Lib.hid hql
            clear htf hlf hlB hlBn hql hqs2 hq hkq hkl hkn
            have hgs := bs.lt
            have hlo := Nat.le_trans HGS.out (Nat.le_of_lt hgs)
            obtain ⟨d0, d1, d2⟩ := three_cells bx1
            have hl0 := bx1.lt
            go_wp2_with fail
            clear d0 d1 d2
            clear hl0
            refine (ctakeO (appF (q : Int)) ⟨false, 20, lB⟩ 0 (0 : Int) hlo hgs hb2 (by rw [appsOf_len, HQS.out]; have := HID.out; omega) HTF.out.1 HTF.out.2.1 HTF.out.2.2).mono ?_
            rintro e w2 ⟨⟨YA, yk, YB, yl, CB, cb, rfl, _, hd⟩, hb⟩
            dsimp only [appF, List.length_nil] at hd ⊢
            rw [HLBN.out] at hd ⊢
            have HW2a := Lib.hid (Nat.lt_of_lt_of_le bxc.lt hb.size)
            replace bx0 := bx0.next hb
            replace bx1 := bx1.next hb
            replace bs := bs.next hb
            replace hc := hc.next hb
            replace bxx := bxx.next hb
            replace bxc := bxc.next hb
            replace hB := hB.trans (hb.mono hB.size)
            clear hb hb2 hgs hlo
            go_upto_region 21 with fail
            refine name_wp fun W20 hW20 => ?_
            have bxy : Box W20 (w2.heap.size) #[.int .i64 0, .int .i64 0, .int .i64 (q : Int), .int .i64 0, .slice YA 0 yk, .int .i64 0, .int .i64 0, .int .i64 0, .slice YB 0 yl] 37 := hW20 ▸ ((Box.new' #[.int .i64 0, .int .i64 0, .int .i64 (q : Int), .int .i64 0, .slice YA 0 yk, .int .i64 0, .int .i64 0, .int .i64 0, .slice YB 0 yl] 37 (by simp)).alloc _)
            have bxd : Box W20 (w2.heap.size + 1) #[.bool false, .int .i64 20, .slice CB d1 cb] 25 := hW20 ▸ (Box.new' #[.bool false, .int .i64 20, .slice CB d1 cb] 25 (by simp))
            have hb : Below w2.heap.size w2 W20 := hW20 ▸ (((Below.refl _ _).alloc (by first | (simp; done) | (simp; omega)) _).alloc (by first | (simp; done) | (simp; omega)) _)
            clear hW20
            replace bx0 := bx0.next hb
            replace bx1 := bx1.next hb
            replace bs := bs.next hb
            replace hc := hc.next hb
            replace bxx := bxx.next hb
            replace bxc := bxc.next hb
            replace hd := hd.next hb
            replace hB := hB.trans (hb.mono hB.size)
            clear hb
            have hq1 : ¬ ((q : Int) < 1) := by have := HQ1.out; omega
            have hq2 : ¬ ((q : Int) > (j : Int)) := by have := HQ1.out; omega
            have hq3 : (q : Int) < (j : Int) + 1 := by have := HQ1.out; omega
            have hq4 : q < j + 1 := by have := HQ1.out; omega
            have s1 : (((i : Int) + 1) != ((i : Int) + 1)) = false := by simp
            have cs := cellsB_cell bs HSN.out
            have fs : W20.frozen? ⟨W12.heap.size, q, none⟩ = false := by have h : W20.heap[W12.heap.size]? = _ := bs; simp [World.frozen?, h]
            have hgs := bs.lt
            obtain ⟨c0, c1, c2, c3, c4, c5, c6, c7, c8⟩ := nine_cells bxx
            obtain ⟨g0, g1, g2, g3, g4, g5, g6, g7, g8⟩ := nine_cells bxy
            have hl0 := bxx.lt; have hl1 := bxy.lt
            go_upto_region 24 with fail
            clear c0 c1 c2 c3 c4 c5 c6 c7 c8
            clear g0 g1 g2 g3 g4 g5 g6 g7 g8
            clear hl0 hl1 hgs cs fs s1 bxx bxy
            have HW2 := Lib.hid (show w1.heap.size + 1 < w2.heap.size from HW2a.out)
            refine name_wp fun V1 hV1 => ?_
            have a0 : Box V1 w.heap.size #[.bool true, .int .i64 20, .slice UA2 (d1 + 1) uc2] 25 := by rw [← hV1]; exact (heap_setCell_other _ _ _ _ (by have h := HGS.out; have h1 := HW1.out; have h2 := HW2.out; simp; omega)).trans bx0
            have a1 : Box V1 (w.heap.size + 1) #[.bool false, .int .i64 20, .slice VA2 (d1 + 1) vc2] 25 := by rw [← hV1]; exact (heap_setCell_other _ _ _ _ (by have h := HGS.out; have h1 := HW1.out; have h2 := HW2.out; simp; omega)).trans bx1
            have a2 : Box V1 (w1.heap.size + 1) #[.bool true, .int .i64 20, .slice CA d1 cc] 25 := by rw [← hV1]; exact (heap_setCell_other _ _ _ _ (by have h := HGS.out; have h1 := HW1.out; have h2 := HW2.out; simp; omega)).trans bxc
            have a3 : Box V1 (w2.heap.size + 1) #[.bool false, .int .i64 20, .slice CB d1 cb] 25 := by rw [← hV1]; exact (heap_setCell_other _ _ _ _ (by have h := HGS.out; have h1 := HW1.out; have h2 := HW2.out; simp; omega)).trans bxd
            have a4 : Box V1 W12.heap.size (cellsB (sn.set q true)) 4 := by rw [← hV1, ← cellsB_set]; exact blk_set bs q _
            have a5 : LaO V1 (w.heap.size + 1 + 1) W12.heap.size (.agg #[.bool true, .int .i64 20, .slice CA d1 cc]) ⟨true, 20, lA⟩ := by rw [← hV1]; exact hc.move (fun k _ _ h => heap_setCell_other _ _ _ _ h) (Nat.le_of_eq (World.size_setCell ..).symm)
            have a6 : LaO V1 (w.heap.size + 1 + 1) W12.heap.size (.agg #[.bool false, .int .i64 20, .slice CB d1 cb]) ⟨false, 20, lB⟩ := by rw [← hV1]; exact hd.move (fun k _ _ h => heap_setCell_other _ _ _ _ h) (Nat.le_of_eq (World.size_setCell ..).symm)
            have a7 : Below w.heap.size w V1 := by rw [← hV1]; exact hB.setCell (by have h := HGS.out; simp; omega) _
            clear hV1 bx0 bx1 bs bxc bxd hc hd hB
            have HC := Lib.hid a5; have HD := Lib.hid a6; have HB := Lib.hid a7; have HS := Lib.hid a4; clear a4 a5 a6 a7
            obtain ⟨d0, d1, d2⟩ := three_cells a2
            obtain ⟨t0, t1, t2⟩ := three_cells a0
            have tf0 := three_free a0 0
            have tf1 := three_free a0 1
            have tf2 := three_free a0 2
            have hl0 := a2.lt; have hl1 := a0.lt
            go_upto_region 25 with fail
            clear d0 d1 d2
            clear t0 t1 t2
            clear tf0 tf1 tf2
            clear hl0 hl1
            refine name_wp fun V2 hV2 => ?_
            have b0 : Box V2 w.heap.size #[.bool true, .int .i64 20, .slice CA d1 cc] 25 := by rw [← hV2]; exact blk_set (blk_set (blk_set a0 0 _) 1 _) 2 _
            have b1 : Box V2 (w.heap.size + 1) #[.bool false, .int .i64 20, .slice VA2 (d1 + 1) vc2] 25 := by rw [← hV2]; exact (three_other (by omega)).trans a1
            have b3 : Box V2 (w2.heap.size + 1) #[.bool false, .int .i64 20, .slice CB d1 cb] 25 := by rw [← hV2]; exact (three_other (by have h := HGS.out; have h1 := HW1.out; have h2 := HW2.out; omega)).trans a3
            have b4 : Box V2 W12.heap.size (cellsB (sn.set q true)) 4 := by rw [← hV2]; exact (three_other (by have h := HGS.out; have h1 := HW1.out; have h2 := HW2.out; omega)).trans HS.out
            have b5 : LaO V2 (w.heap.size + 1 + 1) W12.heap.size (.agg #[.bool true, .int .i64 20, .slice CA d1 cc]) ⟨true, 20, lA⟩ := by rw [← hV2]; exact HC.out.move (fun k h _ _ => three_other (by omega)) (Nat.le_of_eq three_size.symm)
            have b6 : LaO V2 (w.heap.size + 1 + 1) W12.heap.size (.agg #[.bool false, .int .i64 20, .slice CB d1 cb]) ⟨false, 20, lB⟩ := by rw [← hV2]; exact HD.out.move (fun k h _ _ => three_other (by omega)) (Nat.le_of_eq three_size.symm)
            have b7 : Below w.heap.size w V2 := by rw [← hV2]; exact ((HB.out.setCell (by simp) _).setCell (by simp) _).setCell (by simp) _
            clear hV2 a0 a1 a2 a3 HC HD HB HS
            have HC := Lib.hid b5; have HD := Lib.hid b6; have HB := Lib.hid b7; have HS := Lib.hid b4; have HB0 := Lib.hid b0; clear b0 b4 b5 b6 b7
            obtain ⟨d0, d1, d2⟩ := three_cells b3
            obtain ⟨t0, t1, t2⟩ := three_cells b1
            have tf0 := three_free b1 0
            have tf1 := three_free b1 1
            have tf2 := three_free b1 2
            have hl0 := b3.lt; have hl1 := b1.lt
            go_upto_region 26 with fail
            clear d0 d1 d2
            clear t0 t1 t2
            clear tf0 tf1 tf2
            clear hl0 hl1
            refine name_wp fun V3 hV3 => ?_
            have e0 : Box V3 w.heap.size #[.bool true, .int .i64 20, .slice CA d1 cc] 25 := by rw [← hV3]; exact (three_other (by omega)).trans HB0.out
            have e1 : Box V3 (w.heap.size + 1) #[.bool false, .int .i64 20, .slice CB d1 cb] 25 := by rw [← hV3]; exact blk_set (blk_set (blk_set b1 0 _) 1 _) 2 _
            have e4 : Box V3 W12.heap.size (cellsB (sn.set q true)) 4 := by rw [← hV3]; exact (three_other (by have h := HGS.out; have h1 := HW1.out; have h2 := HW2.out; omega)).trans HS.out
            have e5 : LaO V3 (w.heap.size + 1 + 1) W12.heap.size (.agg #[.bool true, .int .i64 20, .slice CA d1 cc]) ⟨true, 20, lA⟩ := by rw [← hV3]; exact HC.out.move (fun k h _ _ => three_other (by omega)) (Nat.le_of_eq three_size.symm)
            have e6 : LaO V3 (w.heap.size + 1 + 1) W12.heap.size (.agg #[.bool false, .int .i64 20, .slice CB d1 cb]) ⟨false, 20, lB⟩ := by rw [← hV3]; exact HD.out.move (fun k h _ _ => three_other (by omega)) (Nat.le_of_eq three_size.symm)
            have e7 : Below w.heap.size w V3 := by rw [← hV3]; exact ((HB.out.setCell (by simp) _).setCell (by simp) _).setCell (by simp) _
            clear hV3 b1 b3 HC HD HB HS HB0
            obtain ⟨ms, hms⟩ : ∃ l, qs2.map (fun (q : Nat) => ((q : Int), (0 : Int))) = l := ⟨_, rfl⟩
            have hml : ms.length = d1 := by rw [← hms, List.length_map]; exact HQL.out
            have HMS := Lib.hid hms; have HML := Lib.hid hml; clear hms hml
            have e8 := e6.is_
            obtain ⟨d0, d1, d2⟩ := three_cells e1
            have hl0 := e1.lt
            go_wp2_with fail
            clear d0 d1 d2
            clear hl0
            refine (clamsgs (xs := ms) e8 (by have := HLBN.out; have := HID.out; show lB.length ≤ _; omega) (by rw [← HLB.out, msgs_apps]; exact HMS.out)).mono ?_
            rintro e w5 ⟨⟨MA, mc, rfl, hm5⟩, hb⟩
            rw [HML.out] at hm5 ⊢
            replace e0 := e0.next hb; replace e1 := e1.next hb; replace e4 := e4.next hb; replace e5 := e5.next hb; replace e6 := e6.next hb; replace e7 := e7.trans (hb.mono e7.size)
            clear hb e8
            have HM5 := Lib.hid hm5; have H0 := Lib.hid e0; have H1 := Lib.hid e1; have H4 := Lib.hid e4; have H5 := Lib.hid e5; have H6 := Lib.hid e6; have H7 := Lib.hid e7; clear hm5 e0 e1 e4 e5 e6 e7
            go_wp2_with fail
            go_loopg [23] d1 (fun mm jv wx => ∃ t : Nat, jv = .int .i64 ((t : Int) + 1) ∧ t ≤ d1 ∧ mm = d1 - t ∧ Quiet w5 wx)
            case atStart => exact ⟨0, rfl, by omega, by omega, Quiet.refl _⟩
            case round =>
              obtain ⟨t, rfl, ht, hmm, hQ⟩ := hrel
              have HMM := Lib.hid hmm; clear hmm
              by_cases htl : t + 1 < d1
              ·
                have htl0 : (t : Int) + 1 < (d1 : Int) := by omega
                have hd20 : d1 < 20 := by have := HID.out; omega
                have hx1 : t < qs2.length := by rw [HQL.out]; omega
                have hx2 : t + 1 < qs2.length := by rw [HQL.out]; omega
                obtain ⟨u1, hu1⟩ : ∃ u, qs2[t] = u := ⟨_, rfl⟩
                obtain ⟨u2, hu2⟩ : ∃ u, qs2[t + 1] = u := ⟨_, rfl⟩
                have hlt12 : u1 < u2 := by rw [← hu1, ← hu2]; exact (List.pairwise_iff_getElem.1 HLF.out.lt) t (t + 1) hx1 hx2 (by omega)
                have hg1 : ms[t]? = some ((u1 : Int), (0 : Int)) := by rw [← HMS.out]; simp [hu1, hx1]
                have hg2 : ms[t + 1]? = some ((u2 : Int), (0 : Int)) := by rw [← HMS.out]; simp [hu2, hx2]
                have hat5 := (HM5.out.arr.keep (fun b _ _ => by rw [hQ.heap]) : SliceAt Rep.msg false wr 0 _ MA ms)
                obtain ⟨g5, o5, hma, _, hg5, m0, _⟩ := hat5.msg hg1
                obtain ⟨g6, o6, hma2, _, _, m2, _⟩ := hat5.msg hg2
                subst hma
                injection hma2 with hma2; injection hma2 with e1 e2 _; subst e1 e2
                dsimp only at m0 m2
                have hge : decide ((u1 : Int) ≥ (u2 : Int)) = false := decide_eq_false (by omega)
                have hge2 : ¬ ((u1 : Int) ≥ (u2 : Int)) := by omega
                have hge3 : decide (u2 ≤ u1) = false := decide_eq_false (by omega)
                clear hg1 hg2 hat5 hu1 hu2 hx1 hx2
                go_wp2_with fail
                have htl1 : t < d1 := by omega
                go_quiet (fail)
                clear htl1
                go_wp2_with fail
                go_roundg (d1 - (t + 1))
                case rel => exact ⟨t + 1, by simp, by omega, rfl, hQ.drewN _⟩
                case measure => have := HMM.out; omega
              ·
                have htl0 : ¬ ((t : Int) + 1 < (d1 : Int)) := by omega
                have hV : Below w5.heap.size w5 _ := hQ.below
                have HV := Lib.hid hV; clear hV hQ
                go_wp2_with fail
                go_roundg d1
                case rel => exact ⟨i + 1, d1, qs2, sn.set q true, CA, CB, cc, cb, by simp, by have := HID.out; omega, rfl, HQL.out, HLF.out, H0.out.next HV.out, H1.out.next HV.out, H4.out.next HV.out, by rw [HLA.out]; exact H5.out.next HV.out, by rw [HLB.out]; exact H6.out.next HV.out, H7.out.trans (HV.out.mono H7.out.size)⟩
                case measure => have := HKD.out; omega
        ·
          have hd0 : d = 0 := by have := HID.out; omega
          subst hd0
          obtain ⟨d0, d1, d2⟩ := three_cells bx0
          obtain ⟨t0, t1, t2⟩ := three_cells bx1
          have hl0 := bx0.lt; have hl1 := bx1.lt
          go_wp2_with fail
          refine (fixed8_any _).mono ?_
          rintro e wz ⟨rfl, hb⟩
          replace hB := hB.trans (hb.mono hB.size)
          go_wp2_with fail
          go_ret
          exact ⟨rfl, hB⟩
end Go.Proofs.Ytkkbblpofhenpaa.laneOrder
