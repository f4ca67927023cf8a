/- LaneOnce: the walk. -/
import Derived.Test.YtkkbblpofhenpaaS15
namespace Go.Proofs.Ytkkbblpofhenpaa.laneOnce
open Go.RowKit Go.Proofs.Ytkkbblpofhenpaa

set_option maxRecDepth 100000 in
set_option maxHeartbeats 8000000 in
theorem walk (v0 : Value) (a0 : La) (v1 : Value) (f1 : Fr) (i : Int) (wi : (Lit.int .i64 i).wf = true) (w : World) (h0 : LaIs false w 0 w.heap.size v0 a0) (h1 : FrIs false w 0 w.heap.size v1 f1) :
    Calls Try.prog 4 #[v0, v1, .int .i64 i] w fun x w' => x = .returned (.bool true) ∧ Below w.heap.size w w' := by
  obtain ⟨a0A, a0c, rfl, _⟩ := id h0
  obtain ⟨P0, hP0⟩ : ∃ P, La.cut a0 = P := ⟨_, rfl⟩
  have hs0 : P0.Small := hP0 ▸ La.cut_small _
  have HP0 := Lib.hid hP0; have HS0 := Lib.hid hs0; clear hP0 hs0
  obtain ⟨a1A, a1B, a1k, a1l, rfl, _, _⟩ := id h1
  obtain ⟨P1, hP1⟩ : ∃ P, Fr.cut f1 = P := ⟨_, rfl⟩
  have hs1 : P1.Small := hP1 ▸ Fr.cut_small _
  have HP1 := Lib.hid hP1; have HS1 := Lib.hid hs1; clear hP1 hs1
  go_enter Try.func4, Try.ntmps4
  try simp only [List.append_eq, List.cons_append, List.nil_append]
  go_wp2_with fail
  refine name_call fun W0 hW0 => ?_
  have bx0 : Box W0 (w.heap.size) #[.bool a0.fifo, .int .i64 a0.cap, .slice a0A a0.l.length a0c] 25 := hW0 ▸ ((Box.new' #[.bool a0.fifo, .int .i64 a0.cap, .slice a0A a0.l.length a0c] 25 (by simp)).alloc _)
  have bx1 : Box W0 (w.heap.size + 1) #[.int .i64 f1.kind, .int .i64 f1.epoch, .int .i64 f1.seq, .int .i64 f1.letter, .slice a1A f1.pieces.length a1k, .int .i64 f1.init, .int .i64 f1.num, .int .i64 f1.count, .slice a1B f1.path.length a1l] 37 := hW0 ▸ (Box.new' #[.int .i64 f1.kind, .int .i64 f1.epoch, .int .i64 f1.seq, .int .i64 f1.letter, .slice a1A f1.pieces.length a1k, .int .i64 f1.init, .int .i64 f1.num, .int .i64 f1.count, .slice a1B f1.path.length a1l] 37 (by simp))
  have hB : Below w.heap.size w W0 := hW0 ▸ (((Below.refl _ _).alloc (by first | (simp; done) | (simp; omega)) _).alloc (by first | (simp; done) | (simp; omega)) _)
  have hlo : w.heap.size + 1 + 1 ≤ W0.heap.size := hW0 ▸ (by simp)
  clear hW0
  refine (clacut (h0.next hB) HP0.out).mono ?_
  rintro e w1 ⟨⟨P0A, P0c, rfl, hp0⟩, hb⟩
  replace bx0 := bx0.next hb
  replace bx1 := bx1.next hb
  replace hp0 := hp0.widen hlo (Nat.le_refl _)
  replace hB := hB.trans (hb.mono hB.size)
  replace hlo := Nat.le_trans hlo hb.size
  clear hb
  obtain ⟨d0, d1, d2⟩ := three_cells bx0
  have df0 := three_free bx0 0
  have df1 := three_free bx0 1
  have df2 := three_free bx0 2
  have hl0 := bx0.lt
  obtain ⟨g0, g1, g2, g3, g4, g5, g6, g7, g8⟩ := nine_cells bx1
  have hl1 := bx1.lt
  go_wp2_with fail
  clear d0 d1 d2 df0 df1 df2 hl0
  clear g0 g1 g2 g3 g4 g5 g6 g7 g8
  clear hl1
  refine name_call fun W hW => ?_
  have qx0 : Box W w.heap.size #[.bool P0.fifo, .int .i64 P0.cap, .slice P0A P0.l.length P0c] 25 := by rw [← hW]; exact blk_set (blk_set (blk_set bx0 0 _) 1 _) 2 _
  have qbx1 : Box W (w.heap.size + 1) #[.int .i64 f1.kind, .int .i64 f1.epoch, .int .i64 f1.seq, .int .i64 f1.letter, .slice a1A f1.pieces.length a1k, .int .i64 f1.init, .int .i64 f1.num, .int .i64 f1.count, .slice a1B f1.path.length a1l] 37 := by rw [← hW]; exact (three_other (by omega)).trans bx1
  have qp0 : LaIs false W (w.heap.size + 1 + 1) W.heap.size (.agg #[.bool P0.fifo, .int .i64 P0.cap, .slice P0A P0.l.length P0c]) P0 := by rw [← hW]; exact (hp0.keep fun b h1 _ => three_other (by omega)).widen (Nat.le_refl _) (Nat.le_of_eq three_size.symm)
  have qB : Below w.heap.size w W := by rw [← hW]; exact ((hB.setCell (by simp) _).setCell (by simp) _).setCell (by simp) _
  have qlo : w.heap.size + 1 + 1 ≤ W.heap.size := by rw [← hW]; exact Nat.le_trans hlo (Nat.le_of_eq three_size.symm)
  clear bx0 bx1 hp0 hB hlo hW
  have bx0 := qx0; clear qx0
  have bx1 := qbx1; clear qbx1
  have hp0 := qp0; have hB := qB; have hlo := qlo; clear qp0 qB qlo
  obtain ⟨W1, rfl⟩ : ∃ x : World, x = W := ⟨_, rfl⟩
  refine (ccut (f := P1) (h1.keep (fun b _ q => hB.block b q) |>.widen (Nat.le_refl _) hB.size) HP1.out).mono ?_
  rintro e w2 ⟨⟨P1A, P1k, P1B, P1l, rfl, hp1⟩, hb⟩
  replace bx0 := bx0.next hb
  replace bx1 := bx1.next hb
  replace hp0 := hp0.next hb
  replace hp1 := hp1.widen hlo (Nat.le_refl _)
  replace hB := hB.trans (hb.mono hB.size)
  replace hlo := Nat.le_trans hlo hb.size
  clear hb
  obtain ⟨g0, g1, g2, g3, g4, g5, g6, g7, g8⟩ := nine_cells bx1
  obtain ⟨c0, c1, c2, c3, c4, c5, c6, c7, c8⟩ := nine_free bx1
  have hl1 := bx1.lt
  obtain ⟨d0, d1, d2⟩ := three_cells bx0
  have hl0 := bx0.lt
  go_wp2_with fail
  clear g0 g1 g2 g3 g4 g5 g6 g7 g8
  clear c0 c1 c2 c3 c4 c5 c6 c7 c8
  clear hl1 d0 d1 d2 hl0
  refine name_call fun W hW => ?_
  have qbx0 : Box W w.heap.size #[.bool P0.fifo, .int .i64 P0.cap, .slice P0A P0.l.length P0c] 25 := by rw [← hW]; exact (nine_far (by omega)).trans bx0
  have qbx1 : Box W (w.heap.size + 1) #[.int .i64 P1.kind, .int .i64 P1.epoch, .int .i64 P1.seq, .int .i64 P1.letter, .slice P1A P1.pieces.length P1k, .int .i64 P1.init, .int .i64 P1.num, .int .i64 P1.count, .slice P1B P1.path.length P1l] 37 := by rw [← hW]; exact nine_box bx1
  have qp0 : LaIs false W (w.heap.size + 1 + 1) W.heap.size (.agg #[.bool P0.fifo, .int .i64 P0.cap, .slice P0A P0.l.length P0c]) P0 := by rw [← hW]; exact (hp0.keep fun b h1 _ => Go.Proofs.Ytkkbblpofhenpaa.nine_far (by omega)).widen (Nat.le_refl _) (Nat.le_of_eq nine_size.symm)
  have qp1 : FrIs false W (w.heap.size + 1 + 1) W.heap.size (.agg #[.int .i64 P1.kind, .int .i64 P1.epoch, .int .i64 P1.seq, .int .i64 P1.letter, .slice P1A P1.pieces.length P1k, .int .i64 P1.init, .int .i64 P1.num, .int .i64 P1.count, .slice P1B P1.path.length P1l]) P1 := by rw [← hW]; exact (hp1.soft.keep fun b h1 _ => Go.Proofs.Ytkkbblpofhenpaa.nine_far (by omega)).widen (Nat.le_refl _) (Nat.le_of_eq nine_size.symm)
  have qB : Below w.heap.size w W := by rw [← hW]; exact nine_below hB (by omega)
  have qlo : w.heap.size + 1 + 1 ≤ W.heap.size := by rw [← hW]; exact Nat.le_trans hlo (Nat.le_of_eq nine_size.symm)
  clear bx0 bx1 hp0 hp1 hB hlo hW
  have bx0 := qbx0; clear qbx0
  have bx1 := qbx1; clear qbx1
  have hp0 := qp0; have hp1 := qp1; have hB := qB; have hlo := qlo; clear qp0 qp1 qB qlo
  clear hlo
  obtain ⟨W0, rfl⟩ : ∃ x : World, x = W := ⟨_, rfl⟩
  replace hp0 := hp0.zero_
  replace hp1 := hp1.zero_
  obtain ⟨d0, d1, d2⟩ := three_cells bx0
  have hl0 := bx0.lt
  refine (claref hp0 HS0.out).mono ?_
  rintro e w1 ⟨⟨RA, Rc, rfl, hr⟩, hb⟩
  replace bx0 := bx0.next hb
  replace bx1 := bx1.next hb
  replace hp0 := hp0.next hb
  replace hp1 := hp1.next hb
  replace hB := hB.trans (hb.mono hB.size)
  clear hb
  obtain ⟨q, hq⟩ : ∃ q, La.right P0 = q := ⟨_, rfl⟩
  have HQ := Lib.hid hq; clear hq
  have hqq : (q != q) = false := by simp
  clear d0 d1 d2 hl0
  go_upto_region 4 with fail
  refine name_wp fun W4 hW4 => ?_
  have bx2 : Box W4 (w1.heap.size) #[.bool P0.fifo, .int .i64 P0.cap, .slice RA P0.l.length Rc] 28 := hW4 ▸ (Box.new' #[.bool P0.fifo, .int .i64 P0.cap, .slice RA P0.l.length Rc] 28 (by simp))
  have hb : Below w1.heap.size w1 W4 := hW4 ▸ ((Below.refl _ _).alloc (by first | (simp; done) | (simp; omega)) _)
  clear hW4
  replace bx0 := bx0.next hb
  replace bx1 := bx1.next hb
  replace hp0 := hp0.next hb
  replace hp1 := hp1.next hb
  replace hr := hr.next hb
  replace hB := hB.trans (hb.mono hB.size)
  clear hb
  replace bx0 := bx0.next ((Below.refl _ _).drew)
  replace bx1 := bx1.next ((Below.refl _ _).drew)
  replace hp0 := hp0.next ((Below.refl _ _).drew)
  replace hp1 := hp1.next ((Below.refl _ _).drew)
  replace hr := hr.next ((Below.refl _ _).drew)
  replace bx2 := bx2.next ((Below.refl _ _).drew)
  replace hB := hB.drew
  have hE := Ext.refl (W4.drew)
  refine region_go 10 (by kernel_rfl) ?_
  obtain ⟨d0, d1, d2⟩ := three_cells bx0
  refine wpAny_go 10 0 [0] 1 4 (by kernel_rfl) (by kernel_rfl) (fun _ _ _ _ _ h => h) (by kernel_rfl) (by rfl) (by rfl) (by kernel_rfl) ?_
  simp only [List.map_cons, List.map_nil, List.getD_cons_zero]
  go_wp2_with fail
  change wpAnyM _ _ _ _ _ _ _ _ _ _
  clear d0 d1 d2
  obtain ⟨g0, g1, g2⟩ := three_cells bx2
  refine wpAny_reads 10 1 [2] 5 3 (by kernel_rfl) (by kernel_rfl) (fun _ _ _ _ _ h => h) (by kernel_rfl) (by rfl) (by rfl) (by kernel_rfl) ?_
  simp only [List.map_cons, List.map_nil, List.getD_cons_succ, List.getD_cons_zero]
  go_wp2_with fail
  change _ → wpAnyM _ _ _ _ _ _ _ _ _ _; intro _
  clear g0 g1 g2
  refine wpAny_oneM 1 7 (by kernel_rfl) (by kernel_rfl) (of_decide_eq_true (by kernel_rfl)) (by rfl) ?_
  simp only [List.getD_cons_succ, List.getD_cons_zero]
  go_wp2_with fail
  refine (claright hp0 HS0.out.len HQ.out).mono ?_
  rintro e w2 ⟨rfl, hb⟩
  replace bx0 := bx0.next hb
  replace bx1 := bx1.next hb
  replace hp0 := hp0.next hb
  replace hp1 := hp1.next hb
  replace hr := hr.next hb
  replace bx2 := bx2.next hb
  replace hE := hE.trans (Ext.below hb (Nat.le_refl _))
  replace hB := hB.trans (hb.mono hB.size)
  clear hb
  go_wp2_with fail
  refine ⟨fun _ => hE, ?_⟩
  refine wpAny_oneM 3 15 (by kernel_rfl) (by kernel_rfl) (of_decide_eq_true (by kernel_rfl)) (by rfl) ?_
  simp only [List.getD_cons_succ, List.getD_cons_zero]
  go_wp2_with fail
  refine (craright hr HQ.out).mono ?_
  rintro e w3 ⟨rfl, hb⟩
  replace bx0 := bx0.next hb
  replace bx1 := bx1.next hb
  replace hp0 := hp0.next hb
  replace hp1 := hp1.next hb
  replace hr := hr.next hb
  replace bx2 := bx2.next hb
  replace hE := hE.trans (Ext.below hb (Nat.le_refl _))
  replace hB := hB.trans (hb.mono hB.size)
  clear hb
  go_wp2_with fail
  refine ⟨fun _ => hE, ?_⟩
  refine wpAny_go 10 15 [4] 31 0 (by kernel_rfl) (by kernel_rfl) (fun _ _ _ _ _ h => h) (by kernel_rfl) (by rfl) (by rfl) (by kernel_rfl) ?_
  simp only [List.map_cons, List.map_nil, List.getD_cons_succ, List.getD_cons_zero]
  go_wp2_with fail
  change wpAnyM _ _ _ _ _ _ _ _ _ _
  refine wpAny_endM (by kernel_rfl) (by kernel_rfl) ?_
  obtain ⟨d0, d1, d2⟩ := three_cells bx2
  have hl0 := bx2.lt
  go_wp2_with fail
  clear d0 d1 d2 hl0
  refine (craright hr HQ.out).mono ?_
  rintro e w4 ⟨rfl, hb⟩
  replace bx0 := bx0.next hb
  replace bx1 := bx1.next hb
  replace hp0 := hp0.next hb
  replace hp1 := hp1.next hb
  replace hr := hr.next hb
  replace bx2 := bx2.next hb
  replace hB := hB.trans (hb.mono hB.size)
  clear hb
  cases hqv : q with
  | false =>
    clear HQ hqv
    go_wp2_with fail
    refine (fixed8_any _).mono ?_
    rintro e wz ⟨rfl, hb⟩
    replace hB := hB.trans (hb.mono hB.size)
    go_wp2_with fail
    go_ret
    exact ⟨rfl, hB⟩
  | true =>
    subst hqv
    obtain ⟨hkd, hcap, hlen⟩ := La.right_parts HQ.out
    have HKD := Lib.hid hkd; have HCAP := Lib.hid hcap; clear hkd hcap hlen
    obtain ⟨B1, hb1⟩ : ∃ b, La.push P0 P1 = b := ⟨_, rfl⟩
    obtain ⟨E1, he1⟩ : ∃ n, La.pushE P0 P1 = n := ⟨_, rfl⟩
    have hbs := La.push_small HS0.out HS1.out
    rw [hb1] at hbs
    have HB1 := Lib.hid hb1; have HE1 := Lib.hid he1; have HBS := Lib.hid hbs; clear hb1 he1 hbs
    obtain ⟨F2, hf2⟩ : ∃ b, La.takeF P0 i = b := ⟨_, rfl⟩
    obtain ⟨B2, hb2⟩ : ∃ b, La.take P0 i = b := ⟨_, rfl⟩
    obtain ⟨E2, he2⟩ : ∃ n, La.takeE P0 i = n := ⟨_, rfl⟩
    have hfs := La.takeF_small (i := i) HS0.out; have hbs := La.take_small (i := i) HS0.out
    rw [hf2] at hfs; rw [hb2] at hbs
    have HF2 := Lib.hid hf2; have HB2 := Lib.hid hb2; have HE2 := Lib.hid he2; have HFS2 := Lib.hid hfs; have HBS2 := Lib.hid hbs; clear hf2 hb2 he2 hfs hbs
    obtain ⟨d0, d1, d2⟩ := three_cells bx0
    have hl0 := bx0.lt
    obtain ⟨g0, g1, g2, g3, g4, g5, g6, g7, g8⟩ := nine_cells bx1
    have hl1 := bx1.lt
    go_wp2_with fail
    clear d0 d1 d2
    clear hl0
    clear g0 g1 g2 g3 g4 g5 g6 g7 g8
    clear hl1
    refine (cpushI (lo := 0) B1 E1 (Nat.zero_le _) hp0 hp1 HS0.out.len' HB1.out HE1.out).mono ?_
    rintro e w5 ⟨⟨B1A, B1c, rfl, hx1⟩, hb⟩
    replace bx0 := bx0.next hb
    replace bx1 := bx1.next hb
    replace hp0 := hp0.next hb
    replace hp1 := hp1.next hb
    replace hr := hr.next hb
    replace bx2 := bx2.next hb
    replace hB := hB.trans (hb.mono hB.size)
    clear hb
    go_upto_region 9 with fail
    refine name_wp fun W9 hW9 => ?_
    have bx3 : Box W9 (w5.heap.size) #[.bool B1.fifo, .int .i64 B1.cap, .slice B1A B1.l.length B1c] 25 := hW9 ▸ (Box.new' #[.bool B1.fifo, .int .i64 B1.cap, .slice B1A B1.l.length B1c] 25 (by simp))
    have hb : Below w5.heap.size w5 W9 := hW9 ▸ ((Below.refl _ _).alloc (by first | (simp; done) | (simp; omega)) _)
    clear hW9
    replace bx0 := bx0.next hb
    replace bx1 := bx1.next hb
    replace hp0 := hp0.next hb
    replace hp1 := hp1.next hb
    replace hr := hr.next hb
    replace bx2 := bx2.next hb
    replace hx1 := hx1.next hb
    replace hB := hB.trans (hb.mono hB.size)
    clear hb
    have HA := Lib.hid hr; have HF := Lib.hid hp1; have HLO := Lib.hid (Nat.zero_le W9.heap.size)
    have bxr := bx2; have bxs := bx1
    go_cut [10, 11] (fun u x wx => PushPost 28 W9 0 E1 B1 u x wx)
    case first =>
      have hV := (Below.refl W9.heap.size W9).drew
      replace bxr := bxr.next ((Below.refl _ _).drew)
      replace bxs := bxs.next ((Below.refl _ _).drew)
      refine region_go 12 (by kernel_rfl) ?_
      obtain ⟨c0, c1, c2, c3, c4, c5, c6, c7, c8⟩ := nine_cells bxs
      refine wpAny_go 12 0 [1] 2 9 (by kernel_rfl) (by kernel_rfl) (fun _ _ _ _ _ h => h) (by kernel_rfl) (by rfl) (by rfl) (by kernel_rfl) ?_
      simp only [List.map_cons, List.map_nil, List.getD_cons_succ, List.getD_cons_zero]
      go_wp2_with fail
      change wpAnyM _ _ _ _ _ _ _ _ _ _
      clear c0 c1 c2 c3 c4 c5 c6 c7 c8
      obtain ⟨c0, c1, c2⟩ := three_cells bxr
      refine wpAny_reads 12 2 [0] 3 8 (by kernel_rfl) (by kernel_rfl) (fun _ _ _ _ _ h => h) (by kernel_rfl) (by rfl) (by rfl) (by kernel_rfl) ?_
      simp only [List.map_cons, List.map_nil, List.getD_cons_zero]
      go_wp2_with fail
      change _ → wpAnyM _ _ _ _ _ _ _ _ _ _; intro _
      clear c0 c1 c2
      refine name_any fun y0 hy => ?_
      have s0 : W9.heap.size ≤ y0.heap.size := by rw [← hy]; simp
      rw [hy] at hV
      clear hy bxr bxs
      refine wpAny_twoM 2 7 7 131 (by kernel_rfl) (by kernel_rfl) (of_decide_eq_true (by kernel_rfl)) (of_decide_eq_true (by kernel_rfl)) (by rfl) (by rfl) ?_ ?_
      ·
        simp only [List.getD_cons_succ, List.getD_cons_zero]
        go_wp2_with fail
        refine (cref3 (lo := 0) (hi := W9.heap.size) s0 (HF.out.keep fun _ _ q => hV.block _ q) HS1.out).mono ?_
        rintro e y1 ⟨⟨RA, rk, RB, rl, rfl, hr⟩, hh⟩
        replace hV := hV.trans (hh.mono s0)
        have s1 := Nat.le_trans s0 hh.size
        clear hh
        go_wp2_with fail
        refine ⟨fun _ => Ext.below (below_drewL hV) (Nat.le_refl _), ?_⟩
        refine wpAny_twoM 3 7 15 135 (by kernel_rfl) (by kernel_rfl) (of_decide_eq_true (by kernel_rfl)) (of_decide_eq_true (by kernel_rfl)) (by rfl) (by rfl) ?_ ?_
        ·
          simp only [List.getD_cons_succ, List.getD_cons_zero]
          go_wp2_with fail
          refine (crpushI B1 E1 (Nat.le_trans HLO.out s1) ((HA.out.keep fun _ _ q => hV.block _ q).widen (Nat.le_refl _) s1) (hr.rng_ (fun _ q => q.elim (fun q => ⟨q.1, Nat.lt_of_lt_of_le q.2 s1⟩) (fun q => ⟨Nat.le_trans (Nat.le_trans HLO.out s0) q.1, q.2⟩))) HS0.out.len' HB1.out HE1.out).mono ?_
          rintro e y2 ⟨⟨LC, lc, rfl, hu⟩, hh⟩
          replace hV := hV.trans (hh.mono s1)
          have s2 := Nat.le_trans s1 hh.size
          clear hh
          go_wp2_with fail
          refine ⟨fun _ => Ext.below (below_drewL hV) (Nat.le_refl _), ?_⟩
          refine wpAny_go 12 15 [4, 5] 63 4 (by kernel_rfl) (by kernel_rfl) (fun _ _ _ _ _ h => h) (by kernel_rfl) (by rfl) (by rfl) (by kernel_rfl) ?_
          simp only [List.map_cons, List.map_nil, List.getD_cons_succ, List.getD_cons_zero]
          go_wp2_with fail
          change wpAnyM _ _ _ _ _ _ _ _ _ _
          refine wpAny_takeM 6 rfl (by kernel_rfl) (by rfl : 63 ||| 2 ^ 6 = 127) (by kernel_rfl) (by kernel_rfl) (by kernel_rfl) (by kernel_rfl) (fun _ _ _ h => h) (.inl ⟨by rfl, fun w => by (go_simp; try with_reducible rfl)⟩) ?_
          refine wpAny_oneM 7 255 (by kernel_rfl) (by kernel_rfl) (of_decide_eq_true (by kernel_rfl)) (by rfl) ?_
          simp only [List.getD_cons_succ, List.getD_cons_zero]
          go_wp2_with fail
          refine ⟨fun h => absurd h (by decide), name_any fun y3 hw => ?_⟩
          have hg : Box y3 y2.heap.size #[.bool false, .int .i64 0, .slice none 0 0] 28 := hw ▸ Box.new _ _ _
          have hh : Below y2.heap.size y2 y3 := hw ▸ (Below.refl _ _).alloc (Nat.le_refl _) _
          have z3 : y2.heap.size < y3.heap.size := hw ▸ (by simp)
          clear hw
          replace hu := hu.out_new hh
          replace hV := hV.trans (hh.mono s2)
          have s3 := Nat.le_trans s2 hh.size
          clear hh
          obtain ⟨d0, d1, d2⟩ := three_cells hg
          have df0 := three_free hg 0
          have df1 := three_free hg 1
          have df2 := three_free hg 2
          have hgl := hg.lt
          refine wpAny_go 12 255 [8, 9] 1023 0 (by kernel_rfl) (by kernel_rfl) (fun _ _ _ _ _ h => h) (by kernel_rfl) (by rfl) (by rfl) (by kernel_rfl) ?_
          simp only [List.map_cons, List.map_nil, List.getD_cons_succ, List.getD_cons_zero]
          go_wp2_with fail
          change wpAnyM _ _ _ _ _ _ _ _ _ _
          clear d0 d1 d2
          clear df0 df1 df2
          refine wpAny_endM (by kernel_rfl) (by kernel_rfl) ?_
          go_wp2_with fail
          go_meet
          exact PushPost.mk_ hg hu s2 hV
        ·
          simp only [List.getD_cons_succ, List.getD_cons_zero]
          go_wp2_with fail
          refine ⟨fun h => absurd h (by decide), name_any fun y2 hw => ?_⟩
          have hg : Box y2 y1.heap.size #[.bool false, .int .i64 0, .slice none 0 0] 28 := hw ▸ Box.new _ _ _
          have hh : Below y1.heap.size y1 y2 := hw ▸ (Below.refl _ _).alloc (Nat.le_refl _) _
          have z2 : y1.heap.size < y2.heap.size := hw ▸ (by simp)
          clear hw
          replace hr := FrIs.out_new (hr.rng_ (lo := 0) (fun _ q => q.elim (fun q => ⟨q.1, Nat.lt_of_lt_of_le q.2 s1⟩) (fun q => ⟨Nat.le_trans (Nat.le_trans HLO.out s0) q.1, q.2⟩))) hh
          replace hV := hV.trans (hh.mono s1)
          have s2 := Nat.le_trans s1 hh.size
          clear hh
          refine wpAny_oneM 3 143 (by kernel_rfl) (by kernel_rfl) (of_decide_eq_true (by kernel_rfl)) (by rfl) ?_
          simp only [List.getD_cons_succ, List.getD_cons_zero]
          go_wp2_with fail
          refine (crpushO B1 E1 (Nat.le_trans HLO.out s2) hg.lt ((HA.out.keep fun _ _ q => hV.block _ q).out_low s1 s2) hr HS0.out.len' HB1.out HE1.out).mono ?_
          rintro e y3 ⟨⟨LC, lc, rfl, hu⟩, hh⟩
          replace hg := hg.next hh
          replace hV := hV.trans (hh.mono s2)
          have s3 := Nat.le_trans s2 hh.size
          clear hh
          go_wp2_with fail
          refine ⟨fun _ => Ext.below (below_drewL hV) (Nat.le_refl _), ?_⟩
          refine wpAny_go 12 143 [4, 5] 191 3 (by kernel_rfl) (by kernel_rfl) (fun _ _ _ _ _ h => h) (by kernel_rfl) (by rfl) (by rfl) (by kernel_rfl) ?_
          simp only [List.map_cons, List.map_nil, List.getD_cons_succ, List.getD_cons_zero]
          go_wp2_with fail
          change wpAnyM _ _ _ _ _ _ _ _ _ _
          refine wpAny_takeM 6 rfl (by kernel_rfl) (by rfl : 191 ||| 2 ^ 6 = 255) (by kernel_rfl) (by kernel_rfl) (by kernel_rfl) (by kernel_rfl) (fun _ _ _ h => h) (.inl ⟨by rfl, fun w => by (go_simp; try with_reducible rfl)⟩) ?_
          obtain ⟨d0, d1, d2⟩ := three_cells hg
          have df0 := three_free hg 0
          have df1 := three_free hg 1
          have df2 := three_free hg 2
          have hgl := hg.lt
          refine wpAny_go 12 255 [8, 9] 1023 0 (by kernel_rfl) (by kernel_rfl) (fun _ _ _ _ _ h => h) (by kernel_rfl) (by rfl) (by rfl) (by kernel_rfl) ?_
          simp only [List.map_cons, List.map_nil, List.getD_cons_succ, List.getD_cons_zero]
          go_wp2_with fail
          change wpAnyM _ _ _ _ _ _ _ _ _ _
          clear d0 d1 d2
          clear df0 df1 df2
          refine wpAny_endM (by kernel_rfl) (by kernel_rfl) ?_
          go_wp2_with fail
          go_meet
          exact PushPost.mk_ hg hu s1 hV
      ·
        simp only [List.getD_cons_succ, List.getD_cons_zero]
        go_wp2_with fail
        refine ⟨fun h => absurd h (by decide), name_any fun y1 hw => ?_⟩
        have hg : Box y1 y0.heap.size #[.bool false, .int .i64 0, .slice none 0 0] 28 := hw ▸ Box.new _ _ _
        have hh : Below y0.heap.size y0 y1 := hw ▸ (Below.refl _ _).alloc (Nat.le_refl _) _
        have z1 : y0.heap.size < y1.heap.size := hw ▸ (by simp)
        clear hw
        replace hV := hV.trans (hh.mono s0)
        have s1 := Nat.le_trans s0 hh.size
        clear hh
        refine wpAny_oneM 2 135 (by kernel_rfl) (by kernel_rfl) (of_decide_eq_true (by kernel_rfl)) (by rfl) ?_
        simp only [List.getD_cons_succ, List.getD_cons_zero]
        go_wp2_with fail
        refine (cref3 (lo := 0) (hi := W9.heap.size) s1 (HF.out.keep fun _ _ q => hV.block _ q) HS1.out).mono ?_
        rintro e y2 ⟨⟨RA, rk, RB, rl, rfl, hr⟩, hh⟩
        replace hr : FrOn false y2 (outS y2 0 y0.heap.size) _ _ := hr.widen (fun k q => q.elim (fun q => ⟨q.1, Nat.lt_of_lt_of_le q.2 (Nat.le_trans s1 hh.size), by have := q.2; omega⟩) (fun q => ⟨Nat.le_trans (Nat.le_trans HLO.out s1) q.1, q.2, by have := q.1; omega⟩))
        replace hg := hg.next hh
        replace hV := hV.trans (hh.mono s1)
        have s2 := Nat.le_trans s1 hh.size
        clear hh
        go_wp2_with fail
        refine ⟨fun _ => Ext.below (below_drewL hV) (Nat.le_refl _), ?_⟩
        refine wpAny_oneM 3 143 (by kernel_rfl) (by kernel_rfl) (of_decide_eq_true (by kernel_rfl)) (by rfl) ?_
        simp only [List.getD_cons_succ, List.getD_cons_zero]
        go_wp2_with fail
        refine (crpushO B1 E1 (Nat.le_trans HLO.out s2) hg.lt ((HA.out.keep fun _ _ q => hV.block _ q).out_low s0 s2) hr HS0.out.len' HB1.out HE1.out).mono ?_
        rintro e y3 ⟨⟨LC, lc, rfl, hu⟩, hh⟩
        replace hg := hg.next hh
        replace hV := hV.trans (hh.mono s2)
        have s3 := Nat.le_trans s2 hh.size
        clear hh
        go_wp2_with fail
        refine ⟨fun _ => Ext.below (below_drewL hV) (Nat.le_refl _), ?_⟩
        refine wpAny_go 12 143 [4, 5] 191 3 (by kernel_rfl) (by kernel_rfl) (fun _ _ _ _ _ h => h) (by kernel_rfl) (by rfl) (by rfl) (by kernel_rfl) ?_
        simp only [List.map_cons, List.map_nil, List.getD_cons_succ, List.getD_cons_zero]
        go_wp2_with fail
        change wpAnyM _ _ _ _ _ _ _ _ _ _
        refine wpAny_takeM 6 rfl (by kernel_rfl) (by rfl : 191 ||| 2 ^ 6 = 255) (by kernel_rfl) (by kernel_rfl) (by kernel_rfl) (by kernel_rfl) (fun _ _ _ h => h) (.inl ⟨by rfl, fun w => by (go_simp; try with_reducible rfl)⟩) ?_
        obtain ⟨d0, d1, d2⟩ := three_cells hg
        have df0 := three_free hg 0
        have df1 := three_free hg 1
        have df2 := three_free hg 2
        have hgl := hg.lt
        refine wpAny_go 12 255 [8, 9] 1023 0 (by kernel_rfl) (by kernel_rfl) (fun _ _ _ _ _ h => h) (by kernel_rfl) (by rfl) (by rfl) (by kernel_rfl) ?_
        simp only [List.map_cons, List.map_nil, List.getD_cons_succ, List.getD_cons_zero]
        go_wp2_with fail
        change wpAnyM _ _ _ _ _ _ _ _ _ _
        clear d0 d1 d2
        clear df0 df1 df2
        refine wpAny_endM (by kernel_rfl) (by kernel_rfl) ?_
        go_wp2_with fail
        go_meet
        exact PushPost.mk_ hg hu s0 hV
    case rest =>
      obtain ⟨g4, SA, Sc, rfl, rfl, bx4, hx4, _, hb⟩ := hcut
      obtain ⟨W10, rfl⟩ : ∃ x : World, x = wc := ⟨_, rfl⟩
      clear HA HF HLO bxr bxs
      replace bx0 := bx0.next hb
      replace bx1 := bx1.next hb
      replace hp0 := hp0.next hb
      replace hp1 := hp1.next hb
      replace hr := hr.next hb
      replace bx2 := bx2.next hb
      replace hx1 := hx1.next hb
      replace bx3 := bx3.next hb
      replace hB := hB.trans (hb.mono hB.size)
      clear hb
      obtain ⟨d0, d1, d2⟩ := three_cells bx0
      have hl0 := bx0.lt
      go_wp2_with fail
      clear d0 d1 d2
      clear hl0
      refine (ctakeI (lo := 0) F2 B2 E2 i (Nat.zero_le _) hp0 HS0.out.len HF2.out HB2.out HE2.out).mono ?_
      rintro e w6 ⟨⟨F2A, F2k, F2B, F2l, B2A, B2c, rfl, hx5, hx6⟩, hb⟩
      replace bx0 := bx0.next hb
      replace bx1 := bx1.next hb
      replace hp0 := hp0.next hb
      replace hp1 := hp1.next hb
      replace hr := hr.next hb
      replace bx2 := bx2.next hb
      replace hx1 := hx1.next hb
      replace bx3 := bx3.next hb
      replace bx4 := bx4.next hb
      replace hx4 := hx4.next hb
      replace hB := hB.trans (hb.mono hB.size)
      clear hb
      obtain ⟨d0, d1, d2⟩ := three_cells bx2
      have hl0 := bx2.lt
      go_wp2_with fail
      clear d0 d1 d2
      clear hl0
      refine name_call fun W11 hW11 => ?_
      have bx5 : Box W11 (w6.heap.size) #[.int .i64 F2.kind, .int .i64 F2.epoch, .int .i64 F2.seq, .int .i64 F2.letter, .slice F2A F2.pieces.length F2k, .int .i64 F2.init, .int .i64 F2.num, .int .i64 F2.count, .slice F2B F2.path.length F2l] 37 := hW11 ▸ ((Box.new' #[.int .i64 F2.kind, .int .i64 F2.epoch, .int .i64 F2.seq, .int .i64 F2.letter, .slice F2A F2.pieces.length F2k, .int .i64 F2.init, .int .i64 F2.num, .int .i64 F2.count, .slice F2B F2.path.length F2l] 37 (by simp)).alloc _)
      have bx6 : Box W11 (w6.heap.size + 1) #[.bool B2.fifo, .int .i64 B2.cap, .slice B2A B2.l.length B2c] 25 := hW11 ▸ (Box.new' #[.bool B2.fifo, .int .i64 B2.cap, .slice B2A B2.l.length B2c] 25 (by simp))
      have hb : Below w6.heap.size w6 W11 := hW11 ▸ (((Below.refl _ _).alloc (by first | (simp; done) | (simp; omega)) _).alloc (by first | (simp; done) | (simp; omega)) _)
      clear hW11
      replace bx0 := bx0.next hb
      replace bx1 := bx1.next hb
      replace hp0 := hp0.next hb
      replace hp1 := hp1.next hb
      replace hr := hr.next hb
      replace bx2 := bx2.next hb
      replace hx1 := hx1.next hb
      replace bx3 := bx3.next hb
      replace bx4 := bx4.next hb
      replace hx4 := hx4.next hb
      replace hx5 := hx5.next hb
      replace hx6 := hx6.next hb
      replace hB := hB.trans (hb.mono hB.size)
      clear hb
      refine (crtakeI (lo := 0) F2 B2 E2 i (Nat.zero_le _) hr HS0.out.len HF2.out HB2.out HE2.out).mono ?_
      rintro e w7 ⟨⟨G2A, G2k, G2B, G2l, D2A, D2c, rfl, hx7, hx8⟩, hb⟩
      replace bx0 := bx0.next hb
      replace bx1 := bx1.next hb
      replace hp0 := hp0.next hb
      replace hp1 := hp1.next hb
      replace hr := hr.next hb
      replace bx2 := bx2.next hb
      replace hx1 := hx1.next hb
      replace bx3 := bx3.next hb
      replace bx4 := bx4.next hb
      replace hx4 := hx4.next hb
      replace hx5 := hx5.next hb
      replace hx6 := hx6.next hb
      replace bx5 := bx5.next hb
      replace bx6 := bx6.next hb
      replace hB := hB.trans (hb.mono hB.size)
      clear hb
      go_upto_region 12 with fail
      refine name_wp fun W12 hW12 => ?_
      have bx7 : Box W12 (w7.heap.size) #[.int .i64 F2.kind, .int .i64 F2.epoch, .int .i64 F2.seq, .int .i64 F2.letter, .slice G2A F2.pieces.length G2k, .int .i64 F2.init, .int .i64 F2.num, .int .i64 F2.count, .slice G2B F2.path.length G2l] 48 := hW12 ▸ ((Box.new' #[.int .i64 F2.kind, .int .i64 F2.epoch, .int .i64 F2.seq, .int .i64 F2.letter, .slice G2A F2.pieces.length G2k, .int .i64 F2.init, .int .i64 F2.num, .int .i64 F2.count, .slice G2B F2.path.length G2l] 48 (by simp)).alloc _)
      have bx8 : Box W12 (w7.heap.size + 1) #[.bool B2.fifo, .int .i64 B2.cap, .slice D2A B2.l.length D2c] 28 := hW12 ▸ (Box.new' #[.bool B2.fifo, .int .i64 B2.cap, .slice D2A B2.l.length D2c] 28 (by simp))
      have hb : Below w7.heap.size w7 W12 := hW12 ▸ (((Below.refl _ _).alloc (by first | (simp; done) | (simp; omega)) _).alloc (by first | (simp; done) | (simp; omega)) _)
      clear hW12
      replace bx0 := bx0.next hb
      replace bx1 := bx1.next hb
      replace hp0 := hp0.next hb
      replace hp1 := hp1.next hb
      replace hr := hr.next hb
      replace bx2 := bx2.next hb
      replace hx1 := hx1.next hb
      replace bx3 := bx3.next hb
      replace bx4 := bx4.next hb
      replace hx4 := hx4.next hb
      replace hx5 := hx5.next hb
      replace hx6 := hx6.next hb
      replace bx5 := bx5.next hb
      replace bx6 := bx6.next hb
      replace hx7 := hx7.next hb
      replace hx8 := hx8.next hb
      replace hB := hB.trans (hb.mono hB.size)
      clear hb
      obtain ⟨ft, hft⟩ : ∃ q, La.fits P0 i = q := ⟨_, rfl⟩
      obtain ⟨cn, hcn⟩ : ∃ n, La.cnt i P0.l = n := ⟨_, rfl⟩
      have HFT := Lib.hid hft; have HCN := Lib.hid hcn; clear hft hcn
      have e1 : (E1 == E1) = true := by simp
      have e2 : (E2 == E2) = true := by simp
      have e3 : (ft == ft) = true := by simp
      have e4 : ((cn : Int) == (cn : Int)) = true := by simp
      replace bx0 := bx0.next ((Below.refl _ _).drew)
      replace bx1 := bx1.next ((Below.refl _ _).drew)
      replace hp0 := hp0.next ((Below.refl _ _).drew)
      replace hp1 := hp1.next ((Below.refl _ _).drew)
      replace hr := hr.next ((Below.refl _ _).drew)
      replace bx2 := bx2.next ((Below.refl _ _).drew)
      replace hx1 := hx1.next ((Below.refl _ _).drew)
      replace bx3 := bx3.next ((Below.refl _ _).drew)
      replace bx4 := bx4.next ((Below.refl _ _).drew)
      replace hx4 := hx4.next ((Below.refl _ _).drew)
      replace hx5 := hx5.next ((Below.refl _ _).drew)
      replace hx6 := hx6.next ((Below.refl _ _).drew)
      replace bx5 := bx5.next ((Below.refl _ _).drew)
      replace bx6 := bx6.next ((Below.refl _ _).drew)
      replace hx7 := hx7.next ((Below.refl _ _).drew)
      replace hx8 := hx8.next ((Below.refl _ _).drew)
      replace bx7 := bx7.next ((Below.refl _ _).drew)
      replace bx8 := bx8.next ((Below.refl _ _).drew)
      replace hB := hB.drew
      have hE := Ext.refl (W12.drew)
      refine region_go 37663105755146 (by kernel_rfl) ?_
      obtain ⟨d0, d1, d2⟩ := three_cells bx3
      refine wpAny_go 37663105755146 0 [0] 1 47 (by kernel_rfl) (by kernel_rfl) (fun _ _ _ _ _ h => h) (by kernel_rfl) (by rfl) (by rfl) (by kernel_rfl) ?_
      simp only [List.map_cons, List.map_nil, List.getD_cons_zero]
      go_wp2_with fail
      change wpAnyM _ _ _ _ _ _ _ _ _ _
      clear d0 d1 d2
      obtain ⟨d0, d1, d2⟩ := three_cells bx4
      refine wpAny_reads 37663105755146 1 [2] 5 46 (by kernel_rfl) (by kernel_rfl) (fun _ _ _ _ _ h => h) (by kernel_rfl) (by rfl) (by rfl) (by kernel_rfl) ?_
      simp only [List.map_cons, List.map_nil, List.getD_cons_succ, List.getD_cons_zero]
      go_wp2_with fail
      change _ → wpAnyM _ _ _ _ _ _ _ _ _ _; intro _
      clear d0 d1 d2
      refine wpAny_oneM 1 7 (by kernel_rfl) (by kernel_rfl) (of_decide_eq_true (by kernel_rfl)) (by rfl) ?_
      simp only [List.getD_cons_succ, List.getD_cons_zero]
      go_wp2_with fail
      refine (claref hx1 HBS.out).mono ?_
      rintro e w8 ⟨⟨Q1A, Q1c, rfl, hy1⟩, hb⟩
      replace bx0 := bx0.next hb
      replace bx1 := bx1.next hb
      replace hp0 := hp0.next hb
      replace hp1 := hp1.next hb
      replace hr := hr.next hb
      replace bx2 := bx2.next hb
      replace hx1 := hx1.next hb
      replace bx3 := bx3.next hb
      replace bx4 := bx4.next hb
      replace hx4 := hx4.next hb
      replace hx5 := hx5.next hb
      replace hx6 := hx6.next hb
      replace bx5 := bx5.next hb
      replace bx6 := bx6.next hb
      replace hx7 := hx7.next hb
      replace hx8 := hx8.next hb
      replace bx7 := bx7.next hb
      replace bx8 := bx8.next hb
      replace hE := hE.trans (Ext.below hb (Nat.le_refl _))
      replace hB := hB.trans (hb.mono hB.size)
      clear hb
      go_wp2_with fail
      refine ⟨fun _ => hE, ?_⟩
      refine wpAny_oneM 3 15 (by kernel_rfl) (by kernel_rfl) (of_decide_eq_true (by kernel_rfl)) (by rfl) ?_
      simp only [List.getD_cons_succ, List.getD_cons_zero]
      go_wp2_with fail
      refine (crasame hy1 hx4 (decide_eq_true rfl)).mono ?_
      rintro e w9 ⟨rfl, hb⟩
      replace bx0 := bx0.next hb
      replace bx1 := bx1.next hb
      replace hp0 := hp0.next hb
      replace hp1 := hp1.next hb
      replace hr := hr.next hb
      replace bx2 := bx2.next hb
      replace hx1 := hx1.next hb
      replace bx3 := bx3.next hb
      replace bx4 := bx4.next hb
      replace hx4 := hx4.next hb
      replace hx5 := hx5.next hb
      replace hx6 := hx6.next hb
      replace bx5 := bx5.next hb
      replace bx6 := bx6.next hb
      replace hx7 := hx7.next hb
      replace hx8 := hx8.next hb
      replace bx7 := bx7.next hb
      replace bx8 := bx8.next hb
      replace hy1 := hy1.next hb
      replace hE := hE.trans (Ext.below hb (Nat.le_refl _))
      replace hB := hB.trans (hb.mono hB.size)
      clear hb
      go_wp2_with fail
      refine ⟨fun _ => hE, ?_⟩
      obtain ⟨d0, d1, d2, d3, d4, d5, d6, d7, d8⟩ := nine_cells bx5
      refine wpAny_go 37663105755146 15 [4, 5, 6, 7, 8, 9, 10] 2047 37 (by kernel_rfl) (by kernel_rfl) (fun _ _ _ _ _ h => h) (by kernel_rfl) (by rfl) (by rfl) (by kernel_rfl) ?_
      simp only [List.map_cons, List.map_nil, List.getD_cons_succ, List.getD_cons_zero]
      go_wp2_with fail
      change wpAnyM _ _ _ _ _ _ _ _ _ _
      clear d0 d1 d2 d3 d4 d5 d6 d7 d8
      obtain ⟨d0, d1, d2, d3, d4, d5, d6, d7, d8⟩ := nine_cells bx7
      refine wpAnyM_rebase hE _ _ _ _ ?_
      clear hE
      have hE := Ext.refl w9
      refine wpAny_reads 37663105755146 2047 [12] 6143 36 (by kernel_rfl) (by kernel_rfl) (fun _ _ _ _ _ h => h) (by kernel_rfl) (by rfl) (by rfl) (by kernel_rfl) ?_
      simp only [List.map_cons, List.map_nil, List.getD_cons_succ, List.getD_cons_zero]
      go_wp2_with fail
      change _ → wpAnyM _ _ _ _ _ _ _ _ _ _; intro _
      clear d0 d1 d2 d3 d4 d5 d6 d7 d8
      refine wpAny_oneM 11 8191 (by kernel_rfl) (by kernel_rfl) (of_decide_eq_true (by kernel_rfl)) (by rfl) ?_
      simp only [List.getD_cons_succ, List.getD_cons_zero]
      go_wp2_with fail
      refine (cref hx5 HFS2.out).mono ?_
      rintro e w10 ⟨⟨Q5A, Q5k, Q5B, Q5l, rfl, hy5⟩, hb⟩
      replace bx0 := bx0.next hb
      replace bx1 := bx1.next hb
      replace hp0 := hp0.next hb
      replace hp1 := hp1.next hb
      replace hr := hr.next hb
      replace bx2 := bx2.next hb
      replace hx1 := hx1.next hb
      replace bx3 := bx3.next hb
      replace bx4 := bx4.next hb
      replace hx4 := hx4.next hb
      replace hx5 := hx5.next hb
      replace hx6 := hx6.next hb
      replace bx5 := bx5.next hb
      replace bx6 := bx6.next hb
      replace hx7 := hx7.next hb
      replace hx8 := hx8.next hb
      replace bx7 := bx7.next hb
      replace bx8 := bx8.next hb
      replace hy1 := hy1.next hb
      replace hE := hE.trans (Ext.below hb (Nat.le_refl _))
      replace hB := hB.trans (hb.mono hB.size)
      clear hb
      go_wp2_with fail
      refine ⟨fun _ => hE, ?_⟩
      refine wpAny_oneM 13 16383 (by kernel_rfl) (by kernel_rfl) (of_decide_eq_true (by kernel_rfl)) (by rfl) ?_
      simp only [List.getD_cons_succ, List.getD_cons_zero]
      go_wp2_with fail
      refine (crsame hy5 hx7 (decide_eq_true rfl)).mono ?_
      rintro e w11 ⟨rfl, hb⟩
      replace bx0 := bx0.next hb
      replace bx1 := bx1.next hb
      replace hp0 := hp0.next hb
      replace hp1 := hp1.next hb
      replace hr := hr.next hb
      replace bx2 := bx2.next hb
      replace hx1 := hx1.next hb
      replace bx3 := bx3.next hb
      replace bx4 := bx4.next hb
      replace hx4 := hx4.next hb
      replace hx5 := hx5.next hb
      replace hx6 := hx6.next hb
      replace bx5 := bx5.next hb
      replace bx6 := bx6.next hb
      replace hx7 := hx7.next hb
      replace hx8 := hx8.next hb
      replace bx7 := bx7.next hb
      replace bx8 := bx8.next hb
      replace hy1 := hy1.next hb
      replace hy5 := hy5.next hb
      replace hE := hE.trans (Ext.below hb (Nat.le_refl _))
      replace hB := hB.trans (hb.mono hB.size)
      clear hb
      go_wp2_with fail
      refine ⟨fun _ => hE, ?_⟩
      obtain ⟨d0, d1, d2⟩ := three_cells bx6
      refine wpAny_go 37663105755146 16383 [14, 15, 16] 131071 31 (by kernel_rfl) (by kernel_rfl) (fun _ _ _ _ _ h => h) (by kernel_rfl) (by rfl) (by rfl) (by kernel_rfl) ?_
      simp only [List.map_cons, List.map_nil, List.getD_cons_succ, List.getD_cons_zero]
      go_wp2_with fail
      change wpAnyM _ _ _ _ _ _ _ _ _ _
      clear d0 d1 d2
      obtain ⟨d0, d1, d2⟩ := three_cells bx8
      refine wpAnyM_rebase hE _ _ _ _ ?_
      clear hE
      have hE := Ext.refl w11
      refine wpAny_reads 37663105755146 131071 [18] 393215 30 (by kernel_rfl) (by kernel_rfl) (fun _ _ _ _ _ h => h) (by kernel_rfl) (by rfl) (by rfl) (by kernel_rfl) ?_
      simp only [List.map_cons, List.map_nil, List.getD_cons_succ, List.getD_cons_zero]
      go_wp2_with fail
      change _ → wpAnyM _ _ _ _ _ _ _ _ _ _; intro _
      clear d0 d1 d2
      refine wpAny_oneM 17 524287 (by kernel_rfl) (by kernel_rfl) (of_decide_eq_true (by kernel_rfl)) (by rfl) ?_
      simp only [List.getD_cons_succ, List.getD_cons_zero]
      go_wp2_with fail
      refine (claref hx6 HBS2.out).mono ?_
      rintro e w12 ⟨⟨Q6A, Q6c, rfl, hy6⟩, hb⟩
      replace bx0 := bx0.next hb
      replace bx1 := bx1.next hb
      replace hp0 := hp0.next hb
      replace hp1 := hp1.next hb
      replace hr := hr.next hb
      replace bx2 := bx2.next hb
      replace hx1 := hx1.next hb
      replace bx3 := bx3.next hb
      replace bx4 := bx4.next hb
      replace hx4 := hx4.next hb
      replace hx5 := hx5.next hb
      replace hx6 := hx6.next hb
      replace bx5 := bx5.next hb
      replace bx6 := bx6.next hb
      replace hx7 := hx7.next hb
      replace hx8 := hx8.next hb
      replace bx7 := bx7.next hb
      replace bx8 := bx8.next hb
      replace hy1 := hy1.next hb
      replace hy5 := hy5.next hb
      replace hE := hE.trans (Ext.below hb (Nat.le_refl _))
      replace hB := hB.trans (hb.mono hB.size)
      clear hb
      go_wp2_with fail
      refine ⟨fun _ => hE, ?_⟩
      refine wpAny_oneM 19 1048575 (by kernel_rfl) (by kernel_rfl) (of_decide_eq_true (by kernel_rfl)) (by rfl) ?_
      simp only [List.getD_cons_succ, List.getD_cons_zero]
      go_wp2_with fail
      refine (crasame hy6 hx8 (decide_eq_true rfl)).mono ?_
      rintro e w13 ⟨rfl, hb⟩
      replace bx0 := bx0.next hb
      replace bx1 := bx1.next hb
      replace hp0 := hp0.next hb
      replace hp1 := hp1.next hb
      replace hr := hr.next hb
      replace bx2 := bx2.next hb
      replace hx1 := hx1.next hb
      replace bx3 := bx3.next hb
      replace bx4 := bx4.next hb
      replace hx4 := hx4.next hb
      replace hx5 := hx5.next hb
      replace hx6 := hx6.next hb
      replace bx5 := bx5.next hb
      replace bx6 := bx6.next hb
      replace hx7 := hx7.next hb
      replace hx8 := hx8.next hb
      replace bx7 := bx7.next hb
      replace bx8 := bx8.next hb
      replace hy1 := hy1.next hb
      replace hy5 := hy5.next hb
      replace hy6 := hy6.next hb
      replace hE := hE.trans (Ext.below hb (Nat.le_refl _))
      replace hB := hB.trans (hb.mono hB.size)
      clear hb
      go_wp2_with fail
      refine ⟨fun _ => hE, ?_⟩
      obtain ⟨d0, d1, d2⟩ := three_cells bx0
      refine wpAny_go 37663105755146 1048575 [20, 21, 22, 23, 24, 25, 26, 27, 28] 536870911 19 (by kernel_rfl) (by kernel_rfl) (fun _ _ _ _ _ h => h) (by kernel_rfl) (by rfl) (by rfl) (by kernel_rfl) ?_
      simp only [List.map_cons, List.map_nil, List.getD_cons_succ, List.getD_cons_zero]
      go_wp2_with fail
      change wpAnyM _ _ _ _ _ _ _ _ _ _
      clear d0 d1 d2
      obtain ⟨d0, d1, d2⟩ := three_cells bx2
      refine wpAnyM_rebase hE _ _ _ _ ?_
      clear hE
      have hE := Ext.refl w13
      refine wpAny_reads 37663105755146 536870911 [30, 31] 3758096383 17 (by kernel_rfl) (by kernel_rfl) (fun _ _ _ _ _ h => h) (by kernel_rfl) (by rfl) (by rfl) (by kernel_rfl) ?_
      simp only [List.map_cons, List.map_nil, List.getD_cons_succ, List.getD_cons_zero]
      go_wp2_with fail
      change _ → wpAnyM _ _ _ _ _ _ _ _ _ _; intro _
      clear d0 d1 d2
      refine wpAny_oneM 29 4294967295 (by kernel_rfl) (by kernel_rfl) (of_decide_eq_true (by kernel_rfl)) (by rfl) ?_
      simp only [List.getD_cons_succ, List.getD_cons_zero]
      go_wp2_with fail
      refine (clafits hp0 HCAP.out HKD.out HS0.out.len HFT.out).mono ?_
      rintro e w14 ⟨rfl, hb⟩
      replace bx0 := bx0.next hb
      replace bx1 := bx1.next hb
      replace hp0 := hp0.next hb
      replace hp1 := hp1.next hb
      replace hr := hr.next hb
      replace bx2 := bx2.next hb
      replace hx1 := hx1.next hb
      replace bx3 := bx3.next hb
      replace bx4 := bx4.next hb
      replace hx4 := hx4.next hb
      replace hx5 := hx5.next hb
      replace hx6 := hx6.next hb
      replace bx5 := bx5.next hb
      replace bx6 := bx6.next hb
      replace hx7 := hx7.next hb
      replace hx8 := hx8.next hb
      replace bx7 := bx7.next hb
      replace bx8 := bx8.next hb
      replace hy1 := hy1.next hb
      replace hy5 := hy5.next hb
      replace hy6 := hy6.next hb
      replace hE := hE.trans (Ext.below hb (Nat.le_refl _))
      replace hB := hB.trans (hb.mono hB.size)
      clear hb
      go_wp2_with fail
      refine ⟨fun _ => hE, ?_⟩
      refine wpAny_oneM 32 8589934591 (by kernel_rfl) (by kernel_rfl) (of_decide_eq_true (by kernel_rfl)) (by rfl) ?_
      simp only [List.getD_cons_succ, List.getD_cons_zero]
      go_wp2_with fail
      refine (crafits hr HCAP.out HFT.out).mono ?_
      rintro e w15 ⟨rfl, hb⟩
      replace bx0 := bx0.next hb
      replace bx1 := bx1.next hb
      replace hp0 := hp0.next hb
      replace hp1 := hp1.next hb
      replace hr := hr.next hb
      replace bx2 := bx2.next hb
      replace hx1 := hx1.next hb
      replace bx3 := bx3.next hb
      replace bx4 := bx4.next hb
      replace hx4 := hx4.next hb
      replace hx5 := hx5.next hb
      replace hx6 := hx6.next hb
      replace bx5 := bx5.next hb
      replace bx6 := bx6.next hb
      replace hx7 := hx7.next hb
      replace hx8 := hx8.next hb
      replace bx7 := bx7.next hb
      replace bx8 := bx8.next hb
      replace hy1 := hy1.next hb
      replace hy5 := hy5.next hb
      replace hy6 := hy6.next hb
      replace hE := hE.trans (Ext.below hb (Nat.le_refl _))
      replace hB := hB.trans (hb.mono hB.size)
      clear hb
      go_wp2_with fail
      refine ⟨fun _ => hE, ?_⟩
      obtain ⟨d0, d1, d2⟩ := three_cells bx0
      refine wpAny_go 37663105755146 8589934591 [33, 34, 35, 36, 37] 274877906943 10 (by kernel_rfl) (by kernel_rfl) (fun _ _ _ _ _ h => h) (by kernel_rfl) (by rfl) (by rfl) (by kernel_rfl) ?_
      simp only [List.map_cons, List.map_nil, List.getD_cons_succ, List.getD_cons_zero]
      go_wp2_with fail
      change wpAnyM _ _ _ _ _ _ _ _ _ _
      clear d0 d1 d2
      obtain ⟨d0, d1, d2⟩ := three_cells bx2
      refine wpAnyM_rebase hE _ _ _ _ ?_
      clear hE
      have hE := Ext.refl w15
      refine wpAny_reads 37663105755146 274877906943 [39, 40] 1924145348607 8 (by kernel_rfl) (by kernel_rfl) (fun _ _ _ _ _ h => h) (by kernel_rfl) (by rfl) (by rfl) (by kernel_rfl) ?_
      simp only [List.map_cons, List.map_nil, List.getD_cons_succ, List.getD_cons_zero]
      go_wp2_with fail
      change _ → wpAnyM _ _ _ _ _ _ _ _ _ _; intro _
      clear d0 d1 d2
      refine wpAny_oneM 38 2199023255551 (by kernel_rfl) (by kernel_rfl) (of_decide_eq_true (by kernel_rfl)) (by rfl) ?_
      simp only [List.getD_cons_succ, List.getD_cons_zero]
      go_wp2_with fail
      refine (clacount hp0 wi HKD.out HS0.out.len HCN.out).mono ?_
      rintro e w16 ⟨rfl, hb⟩
      replace bx0 := bx0.next hb
      replace bx1 := bx1.next hb
      replace hp0 := hp0.next hb
      replace hp1 := hp1.next hb
      replace hr := hr.next hb
      replace bx2 := bx2.next hb
      replace hx1 := hx1.next hb
      replace bx3 := bx3.next hb
      replace bx4 := bx4.next hb
      replace hx4 := hx4.next hb
      replace hx5 := hx5.next hb
      replace hx6 := hx6.next hb
      replace bx5 := bx5.next hb
      replace bx6 := bx6.next hb
      replace hx7 := hx7.next hb
      replace hx8 := hx8.next hb
      replace bx7 := bx7.next hb
      replace bx8 := bx8.next hb
      replace hy1 := hy1.next hb
      replace hy5 := hy5.next hb
      replace hy6 := hy6.next hb
      replace hE := hE.trans (Ext.below hb (Nat.le_refl _))
      replace hB := hB.trans (hb.mono hB.size)
      clear hb
      go_wp2_with fail
      refine ⟨fun _ => hE, ?_⟩
      refine wpAny_oneM 41 4398046511103 (by kernel_rfl) (by kernel_rfl) (of_decide_eq_true (by kernel_rfl)) (by rfl) ?_
      simp only [List.getD_cons_succ, List.getD_cons_zero]
      go_wp2_with fail
      refine (cracount hr HCN.out).mono ?_
      rintro e w17 ⟨rfl, hb⟩
      replace bx0 := bx0.next hb
      replace bx1 := bx1.next hb
      replace hp0 := hp0.next hb
      replace hp1 := hp1.next hb
      replace hr := hr.next hb
      replace bx2 := bx2.next hb
      replace hx1 := hx1.next hb
      replace bx3 := bx3.next hb
      replace bx4 := bx4.next hb
      replace hx4 := hx4.next hb
      replace hx5 := hx5.next hb
      replace hx6 := hx6.next hb
      replace bx5 := bx5.next hb
      replace bx6 := bx6.next hb
      replace hx7 := hx7.next hb
      replace hx8 := hx8.next hb
      replace bx7 := bx7.next hb
      replace bx8 := bx8.next hb
      replace hy1 := hy1.next hb
      replace hy5 := hy5.next hb
      replace hy6 := hy6.next hb
      replace hE := hE.trans (Ext.below hb (Nat.le_refl _))
      replace hB := hB.trans (hb.mono hB.size)
      clear hb
      go_wp2_with fail
      refine ⟨fun _ => hE, ?_⟩
      refine wpAny_go 37663105755146 4398046511103 [42, 43, 44] 35184372088831 3 (by kernel_rfl) (by kernel_rfl) (fun _ _ _ _ _ h => h) (by kernel_rfl) (by rfl) (by rfl) (by kernel_rfl) ?_
      simp only [List.map_cons, List.map_nil, List.getD_cons_succ, List.getD_cons_zero]
      go_wp2_with fail
      change wpAnyM _ _ _ _ _ _ _ _ _ _
      refine wpAny_oneM 45 70368744177663 (by kernel_rfl) (by kernel_rfl) (of_decide_eq_true (by kernel_rfl)) (by rfl) ?_
      simp only [List.getD_cons_succ, List.getD_cons_zero]
      go_wp2_with fail
      refine (fixed8_any _).mono ?_
      rintro e w18 ⟨rfl, hb⟩
      replace bx0 := bx0.next hb
      replace bx1 := bx1.next hb
      replace hp0 := hp0.next hb
      replace hp1 := hp1.next hb
      replace hr := hr.next hb
      replace bx2 := bx2.next hb
      replace hx1 := hx1.next hb
      replace bx3 := bx3.next hb
      replace bx4 := bx4.next hb
      replace hx4 := hx4.next hb
      replace hx5 := hx5.next hb
      replace hx6 := hx6.next hb
      replace bx5 := bx5.next hb
      replace bx6 := bx6.next hb
      replace hx7 := hx7.next hb
      replace hx8 := hx8.next hb
      replace bx7 := bx7.next hb
      replace bx8 := bx8.next hb
      replace hy1 := hy1.next hb
      replace hy5 := hy5.next hb
      replace hy6 := hy6.next hb
      replace hE := hE.trans (Ext.below hb (Nat.le_refl _))
      replace hB := hB.trans (hb.mono hB.size)
      clear hb
      go_wp2_with fail
      refine ⟨fun _ => hE, ?_⟩
      refine wpAny_go 37663105755146 70368744177663 [46, 47] 281474976710655 0 (by kernel_rfl) (by kernel_rfl) (fun _ _ _ _ _ h => h) (by kernel_rfl) (by rfl) (by rfl) (by kernel_rfl) ?_
      simp only [List.map_cons, List.map_nil, List.getD_cons_succ, List.getD_cons_zero]
      go_wp2_with fail
      change wpAnyM _ _ _ _ _ _ _ _ _ _
      refine wpAny_endM (by kernel_rfl) (by kernel_rfl) ?_
      go_wp2_with fail
      go_ret
      exact ⟨rfl, hB⟩
end Go.Proofs.Ytkkbblpofhenpaa.laneOnce
