/- PieceSides: the walk. -/
import Derived.Test.YtdfgnmdofjhnkaaPS2
namespace Go.Proofs.Ytdfgnmdofjhnkaa.pieceSides
open Go.RowKit Go.Proofs.Ytdfgnmdofjhnkaa

set_option maxRecDepth 100000 in
set_option maxHeartbeats 8000000 in
theorem walk (v0 : Value) (p0 : Pc.Piece) (v1 : Value) (p1 : Pc.Piece) (w : World) (h0 : PieceIs false w 0 w.heap.size v0 p0) (h1 : PieceIs false w 0 w.heap.size v1 p1) :
    Calls Try.prog 5 #[v0, v1] w fun x w' => x = .returned (.bool true) ∧ Below w.heap.size w w' := by
  obtain ⟨n0, s0, t0, xs0, ms0, os0⟩ := p0
  obtain ⟨_, _, _, rfl, ⟨A0, k0, rfl, _⟩, ⟨B0, l0, rfl, _⟩, ⟨C0, m0, rfl, _⟩⟩ := id h0
  dsimp only at *
  obtain ⟨n1, s1, t1, xs1, ms1, os1⟩ := p1
  obtain ⟨_, _, _, rfl, ⟨A1, k1, rfl, _⟩, ⟨B1, l1, rfl, _⟩, ⟨C1, m1, rfl, _⟩⟩ := id h1
  dsimp only at *
  obtain ⟨P0, hP0⟩ : ∃ P, P = Pc.cut ⟨n0, s0, t0, xs0, ms0, os0⟩ := ⟨_, rfl⟩
  have hsz0 : Pc.sized P0 := hP0 ▸ Pc.cut_sized _
  have HP0 := Lib.hid hP0; clear hP0
  obtain ⟨P1, hP1⟩ : ∃ P, P = Pc.cut ⟨n1, s1, t1, xs1, ms1, os1⟩ := ⟨_, rfl⟩
  have hsz1 : Pc.sized P1 := hP1 ▸ Pc.cut_sized _
  have HP1 := Lib.hid hP1; clear hP1
  go_enter Try.func5, Try.ntmps5
  try simp only [List.append_eq, List.cons_append, List.nil_append]
  go_wp2_with fail
  refine name_call fun W0 hW0 => ?_
  have bx0 : Box W0 (w.heap.size) #[.int .i64 n0, .int .i64 s0, .int .i64 t0, .slice A0 xs0.length k0, .slice B0 ms0.length l0, .slice C0 os0.length m0] 26 := hW0 ▸ ((Box.new' #[.int .i64 n0, .int .i64 s0, .int .i64 t0, .slice A0 xs0.length k0, .slice B0 ms0.length l0, .slice C0 os0.length m0] 26 (by simp)).alloc _)
  have bx1 : Box W0 (w.heap.size + 1) #[.int .i64 n1, .int .i64 s1, .int .i64 t1, .slice A1 xs1.length k1, .slice B1 ms1.length l1, .slice C1 os1.length m1] 26 := hW0 ▸ (Box.new' #[.int .i64 n1, .int .i64 s1, .int .i64 t1, .slice A1 xs1.length k1, .slice B1 ms1.length l1, .slice C1 os1.length m1] 26 (by simp))
  have hB : Below w.heap.size w W0 := hW0 ▸ (((Below.refl _ _).alloc (by first | (simp; done) | (simp; omega)) _).alloc (by first | (simp; done) | (simp; omega)) _)
  have hlo : w.heap.size + 1 + 1 ≤ W0.heap.size := hW0 ▸ (by simp)
  clear hW0
  refine (cut6_any _ ⟨n0, s0, t0, xs0, ms0, os0⟩ _ ((h0.below hB (Nat.le_refl _)).widen (Nat.le_refl _) hB.size)).mono ?_
  rw [← HP0.out]
  rintro e v0 ⟨⟨x0, rfl, hp0⟩, hb⟩
  replace bx0 := bx0.next hb
  replace bx1 := bx1.next hb
  obtain ⟨_, _, _, rfl, ⟨P03, P0k3, rfl, _⟩, ⟨P04, P0k4, rfl, _⟩, ⟨P05, P0k5, rfl, _⟩⟩ := id hp0
  replace hp0 := hp0.widen (lo' := w.heap.size + 1 + 1) hlo (Nat.le_refl _)
  replace hB := hB.trans (hb.mono hB.size)
  replace hlo := Nat.le_trans hlo hb.size
  clear hb
  obtain ⟨c0, c1, c2, c3, c4, c5⟩ := bx0.six
  obtain ⟨f0, f1, f2, f3, f4, f5⟩ := bx0.free
  obtain ⟨d0, d1, d2, d3, d4, d5⟩ := bx1.six
  go_wp2_with fail
  clear c0 c1 c2 c3 c4 c5
  clear f0 f1 f2 f3 f4 f5
  clear d0 d1 d2 d3 d4 d5
  refine name_call fun W hW => ?_
  have qx0 : Box W (w.heap.size) #[.int .i64 P0.node, .int .i64 P0.state, .int .i64 P0.steps, .slice P03 P0.sent.length P0k3, .slice P04 P0.inn.length P0k4, .slice P05 P0.out.length P0k5] 26 := by rw [← hW]; exact six_box bx0
  have qx1 : Box W (w.heap.size + 1) #[.int .i64 n1, .int .i64 s1, .int .i64 t1, .slice A1 xs1.length k1, .slice B1 ms1.length l1, .slice C1 os1.length m1] 26 := by rw [← hW]; exact bx1.six_far (by omega)
  have qp0 : PieceIs true W (w.heap.size + 1 + 1) W.heap.size (.agg #[.int .i64 P0.node, .int .i64 P0.state, .int .i64 P0.steps, .slice P03 P0.sent.length P0k3, .slice P04 P0.inn.length P0k4, .slice P05 P0.out.length P0k5]) P0 := by rw [← hW]; exact hp0.six_far (by omega)
  have qB : Below w.heap.size w W := by rw [← hW]; exact six_below' hB (by omega)
  have qlo : w.heap.size + 1 + 1 ≤ W.heap.size := by rw [← hW]; exact Nat.le_trans hlo (Nat.le_of_eq six_size.symm)
  clear bx0 bx1 hp0 hB hlo hW
  have bx0 := qx0
  clear qx0
  have bx1 := qx1
  clear qx1
  have hp0 := qp0
  clear qp0
  have hB := qB
  have hlo := qlo
  clear qB qlo
  obtain ⟨V0, rfl⟩ : ∃ x : World, x = W := ⟨_, rfl⟩
  refine (cut6_any _ ⟨n1, s1, t1, xs1, ms1, os1⟩ _ ((h1.below hB (Nat.le_refl _)).widen (Nat.le_refl _) hB.size)).mono ?_
  rw [← HP1.out]
  rintro e v1 ⟨⟨x1, rfl, hp1⟩, hb⟩
  replace bx0 := bx0.next hb
  replace bx1 := bx1.next hb
  replace hp0 := hp0.next hb
  obtain ⟨_, _, _, rfl, ⟨P13, P1k3, rfl, _⟩, ⟨P14, P1k4, rfl, _⟩, ⟨P15, P1k5, rfl, _⟩⟩ := id hp1
  replace hp1 := hp1.widen (lo' := w.heap.size + 1 + 1) hlo (Nat.le_refl _)
  replace hB := hB.trans (hb.mono hB.size)
  replace hlo := Nat.le_trans hlo hb.size
  clear hb
  obtain ⟨c0, c1, c2, c3, c4, c5⟩ := bx1.six
  obtain ⟨f0, f1, f2, f3, f4, f5⟩ := bx1.free
  obtain ⟨d0, d1, d2, d3, d4, d5⟩ := bx0.six
  go_wp2_with fail
  clear c0 c1 c2 c3 c4 c5
  clear f0 f1 f2 f3 f4 f5
  clear d0 d1 d2 d3 d4 d5
  refine name_call fun W hW => ?_
  have qx1 : Box W (w.heap.size + 1) #[.int .i64 P1.node, .int .i64 P1.state, .int .i64 P1.steps, .slice P13 P1.sent.length P1k3, .slice P14 P1.inn.length P1k4, .slice P15 P1.out.length P1k5] 26 := by rw [← hW]; exact six_box bx1
  have qx0 : Box W (w.heap.size) #[.int .i64 P0.node, .int .i64 P0.state, .int .i64 P0.steps, .slice P03 P0.sent.length P0k3, .slice P04 P0.inn.length P0k4, .slice P05 P0.out.length P0k5] 26 := by rw [← hW]; exact bx0.six_far (by omega)
  have qp0 : PieceIs true W (w.heap.size + 1 + 1) W.heap.size (.agg #[.int .i64 P0.node, .int .i64 P0.state, .int .i64 P0.steps, .slice P03 P0.sent.length P0k3, .slice P04 P0.inn.length P0k4, .slice P05 P0.out.length P0k5]) P0 := by rw [← hW]; exact hp0.six_far (by omega)
  have qp1 : PieceIs true W (w.heap.size + 1 + 1) W.heap.size (.agg #[.int .i64 P1.node, .int .i64 P1.state, .int .i64 P1.steps, .slice P13 P1.sent.length P1k3, .slice P14 P1.inn.length P1k4, .slice P15 P1.out.length P1k5]) P1 := by rw [← hW]; exact hp1.six_far (by omega)
  have qB : Below w.heap.size w W := by rw [← hW]; exact six_below' hB (by omega)
  have qlo : w.heap.size + 1 + 1 ≤ W.heap.size := by rw [← hW]; exact Nat.le_trans hlo (Nat.le_of_eq six_size.symm)
  clear bx0 bx1 hp0 hp1 hB hlo hW
  have bx0 := qx0
  clear qx0
  have bx1 := qx1
  clear qx1
  have hp0 := qp0
  clear qp0
  have hp1 := qp1
  clear qp1
  have hB := qB
  have hlo := qlo
  clear qB qlo
  obtain ⟨W0, rfl⟩ : ∃ x : World, x = W := ⟨_, rfl⟩
  replace hp0 := hp0.zero_
  replace hp1 := hp1.zero_
  obtain ⟨X, hX⟩ : ∃ X, ByteArray.mk (Pc.enc P0).toArray = X := ⟨_, rfl⟩
  obtain ⟨Y, hY⟩ : ∃ Y, ByteArray.mk (Pc.enc P1).toArray = Y := ⟨_, rfl⟩
  obtain ⟨E0, hE0⟩ : ∃ E, Pc.err P0 = E := ⟨_, rfl⟩
  obtain ⟨E1, hE1⟩ : ∃ E, Pc.err P1 = E := ⟨_, rfl⟩
  have HX := Lib.hid hX; have HY := Lib.hid hY; have HE0 := Lib.hid hE0; have HE1 := Lib.hid hE1
  clear hX hY hE0 hE1
  have HCC := Lib.hid (show Pc.cut P0 = P0 by rw [HP0.out]; exact Pc.cut_cut _)
  refine (encodeq hp0 HX.out HE0.out).mono ?_
  rintro e w1 ⟨rfl, hb⟩
  replace bx0 := bx0.next hb
  replace bx1 := bx1.next hb
  replace hp0 := hp0.next hb
  replace hp1 := hp1.next hb
  replace hB := hB.trans (hb.mono hB.size)
  clear hb
  obtain ⟨c0, c1, c2, c3, c4, c5⟩ := bx1.six
  go_wp2_with fail
  clear c0 c1 c2 c3 c4 c5
  refine (encodeq hp1 HY.out HE1.out).mono ?_
  rintro e w2 ⟨rfl, hb⟩
  replace bx0 := bx0.next hb
  replace bx1 := bx1.next hb
  replace hp0 := hp0.next hb
  replace hp1 := hp1.next hb
  replace hB := hB.trans (hb.mono hB.size)
  clear hb
  go_upto_region 5 with fail
  go_cut [46] (fun v wx => v = .bool false ∧ Below w2.heap.size w2 wx)
  case first =>
    have hW := Below.refl w2.heap.size w2
    cases hr0 : Pc.right P0
    · obtain rfl : E0 = 4 := by rw [← HE0.out]; simp [Pc.err, hr0]
      clear hr0
      replace bx0 := bx0.next ((Below.refl _ _).drew)
      replace bx1 := bx1.next ((Below.refl _ _).drew)
      replace hp0 := hp0.next ((Below.refl _ _).drew)
      replace hp1 := hp1.next ((Below.refl _ _).drew)
      replace hW := hW.drew
      have hE := Ext.refl (w2.drew)
      refine region_go 26624 (by kernel_rfl) ?_
      refine wpAny_go 26624 0 [0, 1, 2, 3, 4, 5, 6] 127 10 (by kernel_rfl) (by kernel_rfl) (fun _ _ _ _ _ h => h) (by kernel_rfl) (by rfl) (by rfl) (by kernel_rfl) ?_
      simp only [List.map_cons, List.map_nil, List.getD_cons_succ, List.getD_cons_zero]
      go_wp2_with fail
      change wpAnyM _ _ _ _ _ _ _ _ _ _
      refine wpAny_reads 26624 127 [7, 8] 511 8 (by kernel_rfl) (by kernel_rfl) (fun _ _ _ _ _ h => h) (by kernel_rfl) (by rfl) (by rfl) (by kernel_rfl) ?_
      simp only [List.map_cons, List.map_nil, List.getD_cons_succ, List.getD_cons_zero]
      go_wp2_with fail
      change _ → wpAnyM _ _ _ _ _ _ _ _ _ _; intro _
      refine wpAny_takeM 9 rfl (by kernel_rfl) (by rfl : 511 ||| 2 ^ 9 = 1023) (by kernel_rfl) (by kernel_rfl) (by kernel_rfl) (by kernel_rfl) (fun _ _ _ h => h) (.inr ⟨by rfl, rfl⟩) ?_
      refine wpAny_go 26624 1023 [10] 2047 6 (by kernel_rfl) (by kernel_rfl) (fun _ _ _ _ _ h => h) (by kernel_rfl) (by rfl) (by rfl) (by kernel_rfl) ?_
      simp only [List.map_cons, List.map_nil, List.getD_cons_succ, List.getD_cons_zero]
      go_wp2_with fail
      change wpAnyM _ _ _ _ _ _ _ _ _ _
      refine wpAny_reads 26624 2047 [12] 6143 5 (by kernel_rfl) (by kernel_rfl) (fun _ _ _ _ _ h => h) (by kernel_rfl) (by rfl) (by rfl) (by kernel_rfl) ?_
      simp only [List.map_cons, List.map_nil, List.getD_cons_succ, List.getD_cons_zero]
      go_wp2_with fail
      change _ → wpAnyM _ _ _ _ _ _ _ _ _ _; intro _
      refine wpAny_oneM 11 8191 (by kernel_rfl) (by kernel_rfl) (of_decide_eq_true (by kernel_rfl)) (by rfl) ?_
      simp only [List.getD_cons_succ, List.getD_cons_zero]
      go_wp2_with fail
      refine ⟨fun _ => hE, ?_⟩
      refine wpAny_oneM 13 16383 (by kernel_rfl) (by kernel_rfl) (of_decide_eq_true (by kernel_rfl)) (by rfl) ?_
      simp only [List.getD_cons_succ, List.getD_cons_zero]
      go_wp2_with fail
      refine ⟨fun _ => hE, ?_⟩
      refine wpAny_oneM 14 32767 (by kernel_rfl) (by kernel_rfl) (of_decide_eq_true (by kernel_rfl)) (by rfl) ?_
      simp only [List.getD_cons_succ, List.getD_cons_zero]
      go_wp2_with fail
      refine ⟨fun _ => hE, ?_⟩
      refine wpAny_go 26624 32767 [15, 16] 131071 0 (by kernel_rfl) (by kernel_rfl) (fun _ _ _ _ _ h => h) (by kernel_rfl) (by rfl) (by rfl) (by kernel_rfl) ?_
      simp only [List.map_cons, List.map_nil, List.getD_cons_succ, List.getD_cons_zero]
      go_wp2_with fail
      change wpAnyM _ _ _ _ _ _ _ _ _ _
      refine wpAny_endM (by kernel_rfl) (by kernel_rfl) ?_
      go_wp2_with fail
      go_meet
      exact ⟨rfl, hW⟩
    · obtain rfl : E0 = 0 := by rw [← HE0.out]; simp [Pc.err, hr0]
      cases hr1 : Pc.right P1
      · obtain rfl : E1 = 4 := by rw [← HE1.out]; simp [Pc.err, hr1]
        clear hr0 hr1
        replace bx0 := bx0.next ((Below.refl _ _).drew)
        replace bx1 := bx1.next ((Below.refl _ _).drew)
        replace hp0 := hp0.next ((Below.refl _ _).drew)
        replace hp1 := hp1.next ((Below.refl _ _).drew)
        replace hW := hW.drew
        have hE := Ext.refl (w2.drew)
        refine region_go 26624 (by kernel_rfl) ?_
        refine wpAny_go 26624 0 [0, 1, 2, 3, 4, 5, 6] 127 10 (by kernel_rfl) (by kernel_rfl) (fun _ _ _ _ _ h => h) (by kernel_rfl) (by rfl) (by rfl) (by kernel_rfl) ?_
        simp only [List.map_cons, List.map_nil, List.getD_cons_succ, List.getD_cons_zero]
        go_wp2_with fail
        change wpAnyM _ _ _ _ _ _ _ _ _ _
        refine wpAny_reads 26624 127 [7, 8] 511 8 (by kernel_rfl) (by kernel_rfl) (fun _ _ _ _ _ h => h) (by kernel_rfl) (by rfl) (by rfl) (by kernel_rfl) ?_
        simp only [List.map_cons, List.map_nil, List.getD_cons_succ, List.getD_cons_zero]
        go_wp2_with fail
        change _ → wpAnyM _ _ _ _ _ _ _ _ _ _; intro _
        refine wpAny_takeM 9 rfl (by kernel_rfl) (by rfl : 511 ||| 2 ^ 9 = 1023) (by kernel_rfl) (by kernel_rfl) (by kernel_rfl) (by kernel_rfl) (fun _ _ _ h => h) (.inr ⟨by rfl, rfl⟩) ?_
        refine wpAny_go 26624 1023 [10] 2047 6 (by kernel_rfl) (by kernel_rfl) (fun _ _ _ _ _ h => h) (by kernel_rfl) (by rfl) (by rfl) (by kernel_rfl) ?_
        simp only [List.map_cons, List.map_nil, List.getD_cons_succ, List.getD_cons_zero]
        go_wp2_with fail
        change wpAnyM _ _ _ _ _ _ _ _ _ _
        refine wpAny_reads 26624 2047 [12] 6143 5 (by kernel_rfl) (by kernel_rfl) (fun _ _ _ _ _ h => h) (by kernel_rfl) (by rfl) (by rfl) (by kernel_rfl) ?_
        simp only [List.map_cons, List.map_nil, List.getD_cons_succ, List.getD_cons_zero]
        go_wp2_with fail
        change _ → wpAnyM _ _ _ _ _ _ _ _ _ _; intro _
        refine wpAny_oneM 11 8191 (by kernel_rfl) (by kernel_rfl) (of_decide_eq_true (by kernel_rfl)) (by rfl) ?_
        simp only [List.getD_cons_succ, List.getD_cons_zero]
        go_wp2_with fail
        refine ⟨fun _ => hE, ?_⟩
        refine wpAny_oneM 13 16383 (by kernel_rfl) (by kernel_rfl) (of_decide_eq_true (by kernel_rfl)) (by rfl) ?_
        simp only [List.getD_cons_succ, List.getD_cons_zero]
        go_wp2_with fail
        refine ⟨fun _ => hE, ?_⟩
        refine wpAny_oneM 14 32767 (by kernel_rfl) (by kernel_rfl) (of_decide_eq_true (by kernel_rfl)) (by rfl) ?_
        simp only [List.getD_cons_succ, List.getD_cons_zero]
        go_wp2_with fail
        refine ⟨fun _ => hE, ?_⟩
        refine wpAny_go 26624 32767 [15, 16] 131071 0 (by kernel_rfl) (by kernel_rfl) (fun _ _ _ _ _ h => h) (by kernel_rfl) (by rfl) (by rfl) (by kernel_rfl) ?_
        simp only [List.map_cons, List.map_nil, List.getD_cons_succ, List.getD_cons_zero]
        go_wp2_with fail
        change wpAnyM _ _ _ _ _ _ _ _ _ _
        refine wpAny_endM (by kernel_rfl) (by kernel_rfl) ?_
        go_wp2_with fail
        go_meet
        exact ⟨rfl, hW⟩
      · obtain rfl : E1 = 0 := by rw [← HE1.out]; simp [Pc.err, hr1]
        have hxy : (X.toList == Y.toList) = decide (P0 = P1) := by
          have e1 : X.toList = W.puts (Pc.nums P0) := by rw [← HX.out, ByteArray.toList_mk]; simp [Pc.enc, hr0]
          have e2 : Y.toList = W.puts (Pc.nums P1) := by rw [← HY.out, ByteArray.toList_mk]; simp [Pc.enc, hr1]
          rw [e1, e2, Bool.eq_iff_iff, beq_iff_eq, decide_eq_true_iff]; exact Pc.puts_inj hr0 hr1
        obtain ⟨bb, hbb⟩ : ∃ b, decide (P0 = P1) = b := ⟨_, rfl⟩
        rw [hbb] at hxy
        have HBB := Lib.hid hbb
        clear hr0 hr1 hbb
        replace bx0 := bx0.next ((Below.refl _ _).drew)
        replace bx1 := bx1.next ((Below.refl _ _).drew)
        replace hp0 := hp0.next ((Below.refl _ _).drew)
        replace hp1 := hp1.next ((Below.refl _ _).drew)
        replace hW := hW.drew
        have hE := Ext.refl (w2.drew)
        refine region_go 26624 (by kernel_rfl) ?_
        refine wpAny_go 26624 0 [0, 1, 2, 3, 4, 5, 6] 127 10 (by kernel_rfl) (by kernel_rfl) (fun _ _ _ _ _ h => h) (by kernel_rfl) (by rfl) (by rfl) (by kernel_rfl) ?_
        simp only [List.map_cons, List.map_nil, List.getD_cons_succ, List.getD_cons_zero]
        go_wp2_with fail
        change wpAnyM _ _ _ _ _ _ _ _ _ _
        refine wpAny_reads 26624 127 [7, 8] 511 8 (by kernel_rfl) (by kernel_rfl) (fun _ _ _ _ _ h => h) (by kernel_rfl) (by rfl) (by rfl) (by kernel_rfl) ?_
        simp only [List.map_cons, List.map_nil, List.getD_cons_succ, List.getD_cons_zero]
        go_wp2_with fail
        change _ → wpAnyM _ _ _ _ _ _ _ _ _ _; intro _
        refine wpAny_takeM 9 rfl (by kernel_rfl) (by rfl : 511 ||| 2 ^ 9 = 1023) (by kernel_rfl) (by kernel_rfl) (by kernel_rfl) (by kernel_rfl) (fun _ _ _ h => h) (.inl ⟨by rfl, fun w => by (go_simp; try with_reducible rfl)⟩) ?_
        obtain ⟨c0, c1, c2, c3, c4, c5⟩ := bx0.six
        refine wpAny_go 26624 1023 [10] 2047 6 (by kernel_rfl) (by kernel_rfl) (fun _ _ _ _ _ h => h) (by kernel_rfl) (by rfl) (by rfl) (by kernel_rfl) ?_
        simp only [List.map_cons, List.map_nil, List.getD_cons_succ, List.getD_cons_zero]
        go_wp2_with fail
        change wpAnyM _ _ _ _ _ _ _ _ _ _
        clear c0 c1 c2 c3 c4 c5
        obtain ⟨c0, c1, c2, c3, c4, c5⟩ := bx1.six
        refine wpAny_reads 26624 2047 [12] 6143 5 (by kernel_rfl) (by kernel_rfl) (fun _ _ _ _ _ h => h) (by kernel_rfl) (by rfl) (by rfl) (by kernel_rfl) ?_
        simp only [List.map_cons, List.map_nil, List.getD_cons_succ, List.getD_cons_zero]
        go_wp2_with fail
        change _ → wpAnyM _ _ _ _ _ _ _ _ _ _; intro _
        clear c0 c1 c2 c3 c4 c5
        refine wpAny_oneM 11 8191 (by kernel_rfl) (by kernel_rfl) (of_decide_eq_true (by kernel_rfl)) (by rfl) ?_
        simp only [List.getD_cons_succ, List.getD_cons_zero]
        go_wp2_with fail
        refine (ref_any _ P0 _ hp0).mono ?_
        rintro e w3 ⟨rfl, hb⟩
        replace bx0 := bx0.next hb
        replace bx1 := bx1.next hb
        replace hp0 := hp0.next hb
        replace hp1 := hp1.next hb
        replace hE := hE.trans (Ext.below hb (Nat.le_refl _))
        replace hW := hW.trans (hb.mono hW.size)
        clear hb
        go_wp2_with fail
        refine ⟨fun _ => hE, ?_⟩
        refine wpAny_oneM 13 16383 (by kernel_rfl) (by kernel_rfl) (of_decide_eq_true (by kernel_rfl)) (by rfl) ?_
        simp only [List.getD_cons_succ, List.getD_cons_zero]
        go_wp2_with fail
        refine (ref_any _ P1 _ hp1).mono ?_
        rintro e w4 ⟨rfl, hb⟩
        replace bx0 := bx0.next hb
        replace bx1 := bx1.next hb
        replace hp0 := hp0.next hb
        replace hp1 := hp1.next hb
        replace hE := hE.trans (Ext.below hb (Nat.le_refl _))
        replace hW := hW.trans (hb.mono hW.size)
        clear hb
        go_wp2_with fail
        refine ⟨fun _ => hE, ?_⟩
        refine wpAny_oneM 14 32767 (by kernel_rfl) (by kernel_rfl) (of_decide_eq_true (by kernel_rfl)) (by rfl) ?_
        simp only [List.getD_cons_succ, List.getD_cons_zero]
        go_wp2_with fail
        refine (rsame_any _ _ P0 P1 _ hp0 hp1).mono ?_
        rintro e w5 ⟨rfl, hb⟩
        replace bx0 := bx0.next hb
        replace bx1 := bx1.next hb
        replace hp0 := hp0.next hb
        replace hp1 := hp1.next hb
        replace hE := hE.trans (Ext.below hb (Nat.le_refl _))
        replace hW := hW.trans (hb.mono hW.size)
        clear hb
        rw [HBB.out]
        go_wp2_with fail
        refine ⟨fun _ => hE, ?_⟩
        refine wpAny_go 26624 32767 [15, 16] 131071 0 (by kernel_rfl) (by kernel_rfl) (fun _ _ _ _ _ h => h) (by kernel_rfl) (by rfl) (by rfl) (by kernel_rfl) ?_
        simp only [List.map_cons, List.map_nil, List.getD_cons_succ, List.getD_cons_zero]
        go_wp2_with fail
        change wpAnyM _ _ _ _ _ _ _ _ _ _
        refine wpAny_endM (by kernel_rfl) (by kernel_rfl) ?_
        go_wp2_with fail
        go_meet
        exact ⟨by cases bb <;> rfl, hW⟩
  case rest =>
    obtain ⟨rfl, hW⟩ := hcut
    obtain ⟨W1, rfl⟩ : ∃ x : World, x = wc := ⟨_, rfl⟩
    replace bx0 := bx0.next hW
    replace bx1 := bx1.next hW
    replace hp0 := hp0.next hW
    replace hp1 := hp1.next hW
    replace hB := hB.trans (hW.mono hB.size)
    clear hW
    go_wp2_with fail
    go_cut [9, 10] (fun p q wx => Sides P0 W1 p q wx)
    case first =>
      have hV := Below.refl W1.heap.size W1
      clear hB
      replace bx0 := bx0.next ((Below.refl _ _).drew)
      replace hp0 := hp0.next ((Below.refl _ _).drew)
      clear bx1 hp1
      replace hV := hV.drew
      have hE := Ext.refl (W1.drew)
      refine region_go 10 (by kernel_rfl) ?_
      obtain ⟨c0, c1, c2, c3, c4, c5⟩ := bx0.six
      refine wpAny_go 10 0 [0] 1 7 (by kernel_rfl) (by kernel_rfl) (fun _ _ _ _ _ h => h) (by kernel_rfl) (by rfl) (by rfl) (by kernel_rfl) ?_
      simp only [List.map_cons, List.map_nil, List.getD_cons_zero]
      go_wp2_with fail
      change wpAnyM _ _ _ _ _ _ _ _ _ _
      refine wpAny_reads 10 1 [2] 5 6 (by kernel_rfl) (by kernel_rfl) (fun _ _ _ _ _ h => h) (by kernel_rfl) (by rfl) (by rfl) (by kernel_rfl) ?_
      simp only [List.map_cons, List.map_nil, List.getD_cons_succ, List.getD_cons_zero]
      go_wp2_with fail
      change _ → wpAnyM _ _ _ _ _ _ _ _ _ _; intro _
      clear c0 c1 c2 c3 c4 c5 bx0
      obtain ⟨u0, hu0⟩ : ∃ u : World, u = W1.drew := ⟨_, rfl⟩
      have s0 : W1.heap.size ≤ u0.heap.size := hu0 ▸ (by simp)
      rw [← hu0] at hE hp0 hV ⊢
      clear hu0
      refine wpAny_threeM 1 4 5 7 21 37 (by kernel_rfl) (by kernel_rfl) (of_decide_eq_true (by kernel_rfl)) (of_decide_eq_true (by kernel_rfl)) (of_decide_eq_true (by kernel_rfl)) (by rfl) (by rfl) (by rfl) ?_ ?_ ?_
      ·
        simp only [List.getD_cons_succ, List.getD_cons_zero]
        go_wp2_with fail
        refine (Own_any _ P0 _ hp0 hsz0).mono ?_
        rintro e u1 ⟨⟨va, rfl, ha⟩, hh⟩
        have s1 := hh.size
        replace hp0 := hp0.next hh
        replace hE := hE.trans (Ext.below hh (Nat.le_refl _))
        replace hV := hV.trans (hh.mono hV.size)
        clear hh
        have ha : Fix u1 u0.heap.size u1.heap.size va P0 := ⟨ha, Nat.le_refl _⟩
        go_wp2_with fail
        refine ⟨fun _ => hE, ?_⟩
        refine wpAny_threeM 3 4 5 15 23 39 (by kernel_rfl) (by kernel_rfl) (of_decide_eq_true (by kernel_rfl)) (of_decide_eq_true (by kernel_rfl)) (of_decide_eq_true (by kernel_rfl)) (by rfl) (by rfl) (by rfl) ?_ ?_ ?_
        ·
          simp only [List.getD_cons_succ, List.getD_cons_zero]
          go_wp2_with fail
          refine (cut6_any _ P0 _ hp0).mono ?_
          rw [HCC.out]
          rintro e u2 ⟨⟨vb, rfl, hb⟩, hh⟩
          have s2 := hh.size
          replace hp0 := hp0.next hh
          replace ha := ha.next hh
          replace hE := hE.trans (Ext.below hh (Nat.le_refl _))
          replace hV := hV.trans (hh.mono hV.size)
          clear hh
          have hb : Fix u2 u1.heap.size u2.heap.size vb P0 := ⟨hb, Nat.le_refl _⟩
          go_wp2_with fail
          refine ⟨fun _ => hE, ?_⟩
          refine wpAny_twoM 4 5 31 47 (by kernel_rfl) (by kernel_rfl) (of_decide_eq_true (by kernel_rfl)) (of_decide_eq_true (by kernel_rfl)) (by rfl) (by rfl) ?_ ?_
          ·
            simp only [List.getD_cons_succ, List.getD_cons_zero]
            go_wp2_with fail
            refine ⟨fun h => absurd h (by decide), name_any fun u3 hw => ?_⟩
            have x9 : Box u3 u2.heap.size #[.int .i64 0, .int .i64 0, .int .i64 0, .slice none 0 0, .slice none 0 0, .slice none 0 0] 26 := hw ▸ Box.new _ _ _
            have hh : Below u2.heap.size u2 u3 := hw ▸ ((Below.refl _ _).alloc (Nat.le_refl _) _)
            have s3 : u2.heap.size < u3.heap.size := hw ▸ (by simp)
            clear hw
            replace hp0 := hp0.next hh
            replace ha := ha.next hh
            replace hb := hb.next hh
            replace hE := hE.trans (Ext.below hh (Nat.le_refl _))
            replace hV := hV.trans (hh.mono hV.size)
            clear hh
            refine wpAny_oneM 5 63 (by kernel_rfl) (by kernel_rfl) (of_decide_eq_true (by kernel_rfl)) (by rfl) ?_
            simp only [List.getD_cons_succ, List.getD_cons_zero]
            go_wp2_with fail
            refine ⟨fun h => absurd h (by decide), name_any fun u4 hw => ?_⟩
            have x10 : Box u4 u3.heap.size #[.int .i64 0, .int .i64 0, .int .i64 0, .slice none 0 0, .slice none 0 0, .slice none 0 0] 26 := hw ▸ Box.new _ _ _
            have hh : Below u3.heap.size u3 u4 := hw ▸ ((Below.refl _ _).alloc (Nat.le_refl _) _)
            have s4 : u3.heap.size < u4.heap.size := hw ▸ (by simp)
            clear hw
            replace hp0 := hp0.next hh
            replace ha := ha.next hh
            replace hb := hb.next hh
            replace x9 := x9.next hh
            replace hE := hE.trans (Ext.below hh (Nat.le_refl _))
            replace hV := hV.trans (hh.mono hV.size)
            clear hh
            obtain ⟨_, _, _, rfl, ⟨A3, a3, rfl, _⟩, ⟨A4, a4, rfl, _⟩, ⟨A5, a5, rfl, _⟩⟩ := id ha.1
            obtain ⟨_, _, _, rfl, ⟨B3, c3, rfl, _⟩, ⟨B4, c4, rfl, _⟩, ⟨B5, c5, rfl, _⟩⟩ := id hb.1
            obtain ⟨d0, d1, d2, d3, d4, d5⟩ := x9.six
            obtain ⟨f0, f1, f2, f3, f4, f5⟩ := x9.free
            refine wpAny_go 10 63 [6] 127 1 (by kernel_rfl) (by kernel_rfl) (fun _ _ _ _ _ h => h) (by kernel_rfl) (by rfl) (by rfl) (by kernel_rfl) ?_
            simp only [List.map_cons, List.map_nil, List.getD_cons_succ, List.getD_cons_zero]
            go_wp2_with fail
            change wpAnyM _ _ _ _ _ _ _ _ _ _
            clear d0 d1 d2 d3 d4 d5 f0 f1 f2 f3 f4 f5
            refine name_any fun uz hw => ?_
            have y10 : Box uz u3.heap.size #[.int .i64 0, .int .i64 0, .int .i64 0, .slice none 0 0, .slice none 0 0, .slice none 0 0] 26 := by rw [← hw]; exact x10.six_far (by omega)
            obtain ⟨d0, d1, d2, d3, d4, d5⟩ := y10.six
            obtain ⟨f0, f1, f2, f3, f4, f5⟩ := y10.free
            clear y10
            refine wpAny_go 10 127 [7] 255 0 (by kernel_rfl) (by kernel_rfl) (fun _ _ _ _ _ h => h) (by kernel_rfl) (by rfl) (by rfl) (by kernel_rfl) ?_
            simp only [List.map_cons, List.map_nil, List.getD_cons_succ, List.getD_cons_zero]
            go_wp2_with fail
            change wpAnyM _ _ _ _ _ _ _ _ _ _
            clear d0 d1 d2 d3 d4 d5 f0 f1 f2 f3 f4 f5
            subst hw
            refine wpAny_endM (by kernel_rfl) (by kernel_rfl) ?_
            go_wp2_with fail
            go_meet
            have z1 := ha.2; have z2 := hb.2
            exact Sides.of x9 x10 ha hb (by omega) (by omega) (by omega) (by omega) (by omega) (by omega) (by omega) (by omega) (by omega) hV
          ·
            simp only [List.getD_cons_succ, List.getD_cons_zero]
            go_wp2_with fail
            refine ⟨fun h => absurd h (by decide), name_any fun u3 hw => ?_⟩
            have x10 : Box u3 u2.heap.size #[.int .i64 0, .int .i64 0, .int .i64 0, .slice none 0 0, .slice none 0 0, .slice none 0 0] 26 := hw ▸ Box.new _ _ _
            have hh : Below u2.heap.size u2 u3 := hw ▸ ((Below.refl _ _).alloc (Nat.le_refl _) _)
            have s3 : u2.heap.size < u3.heap.size := hw ▸ (by simp)
            clear hw
            replace hp0 := hp0.next hh
            replace ha := ha.next hh
            replace hb := hb.next hh
            replace hE := hE.trans (Ext.below hh (Nat.le_refl _))
            replace hV := hV.trans (hh.mono hV.size)
            clear hh
            refine wpAny_oneM 4 63 (by kernel_rfl) (by kernel_rfl) (of_decide_eq_true (by kernel_rfl)) (by rfl) ?_
            simp only [List.getD_cons_succ, List.getD_cons_zero]
            go_wp2_with fail
            refine ⟨fun h => absurd h (by decide), name_any fun u4 hw => ?_⟩
            have x9 : Box u4 u3.heap.size #[.int .i64 0, .int .i64 0, .int .i64 0, .slice none 0 0, .slice none 0 0, .slice none 0 0] 26 := hw ▸ Box.new _ _ _
            have hh : Below u3.heap.size u3 u4 := hw ▸ ((Below.refl _ _).alloc (Nat.le_refl _) _)
            have s4 : u3.heap.size < u4.heap.size := hw ▸ (by simp)
            clear hw
            replace hp0 := hp0.next hh
            replace ha := ha.next hh
            replace hb := hb.next hh
            replace x10 := x10.next hh
            replace hE := hE.trans (Ext.below hh (Nat.le_refl _))
            replace hV := hV.trans (hh.mono hV.size)
            clear hh
            obtain ⟨_, _, _, rfl, ⟨A3, a3, rfl, _⟩, ⟨A4, a4, rfl, _⟩, ⟨A5, a5, rfl, _⟩⟩ := id ha.1
            obtain ⟨_, _, _, rfl, ⟨B3, c3, rfl, _⟩, ⟨B4, c4, rfl, _⟩, ⟨B5, c5, rfl, _⟩⟩ := id hb.1
            obtain ⟨d0, d1, d2, d3, d4, d5⟩ := x9.six
            obtain ⟨f0, f1, f2, f3, f4, f5⟩ := x9.free
            refine wpAny_go 10 63 [6] 127 1 (by kernel_rfl) (by kernel_rfl) (fun _ _ _ _ _ h => h) (by kernel_rfl) (by rfl) (by rfl) (by kernel_rfl) ?_
            simp only [List.map_cons, List.map_nil, List.getD_cons_succ, List.getD_cons_zero]
            go_wp2_with fail
            change wpAnyM _ _ _ _ _ _ _ _ _ _
            clear d0 d1 d2 d3 d4 d5 f0 f1 f2 f3 f4 f5
            refine name_any fun uz hw => ?_
            have y10 : Box uz u2.heap.size #[.int .i64 0, .int .i64 0, .int .i64 0, .slice none 0 0, .slice none 0 0, .slice none 0 0] 26 := by rw [← hw]; exact x10.six_far (by omega)
            obtain ⟨d0, d1, d2, d3, d4, d5⟩ := y10.six
            obtain ⟨f0, f1, f2, f3, f4, f5⟩ := y10.free
            clear y10
            refine wpAny_go 10 127 [7] 255 0 (by kernel_rfl) (by kernel_rfl) (fun _ _ _ _ _ h => h) (by kernel_rfl) (by rfl) (by rfl) (by kernel_rfl) ?_
            simp only [List.map_cons, List.map_nil, List.getD_cons_succ, List.getD_cons_zero]
            go_wp2_with fail
            change wpAnyM _ _ _ _ _ _ _ _ _ _
            clear d0 d1 d2 d3 d4 d5 f0 f1 f2 f3 f4 f5
            subst hw
            refine wpAny_endM (by kernel_rfl) (by kernel_rfl) ?_
            go_wp2_with fail
            go_meet
            have z1 := ha.2; have z2 := hb.2
            exact Sides.of x9 x10 ha hb (by omega) (by omega) (by omega) (by omega) (by omega) (by omega) (by omega) (by omega) (by omega) hV
        ·
          simp only [List.getD_cons_succ, List.getD_cons_zero]
          go_wp2_with fail
          refine ⟨fun h => absurd h (by decide), name_any fun u2 hw => ?_⟩
          have x9 : Box u2 u1.heap.size #[.int .i64 0, .int .i64 0, .int .i64 0, .slice none 0 0, .slice none 0 0, .slice none 0 0] 26 := hw ▸ Box.new _ _ _
          have hh : Below u1.heap.size u1 u2 := hw ▸ ((Below.refl _ _).alloc (Nat.le_refl _) _)
          have s2 : u1.heap.size < u2.heap.size := hw ▸ (by simp)
          clear hw
          replace hp0 := hp0.next hh
          replace ha := ha.next hh
          replace hE := hE.trans (Ext.below hh (Nat.le_refl _))
          replace hV := hV.trans (hh.mono hV.size)
          clear hh
          refine wpAny_twoM 3 5 31 55 (by kernel_rfl) (by kernel_rfl) (of_decide_eq_true (by kernel_rfl)) (of_decide_eq_true (by kernel_rfl)) (by rfl) (by rfl) ?_ ?_
          ·
            simp only [List.getD_cons_succ, List.getD_cons_zero]
            go_wp2_with fail
            refine (cut6_any _ P0 _ hp0).mono ?_
            rw [HCC.out]
            rintro e u3 ⟨⟨vb, rfl, hb⟩, hh⟩
            have s3 := hh.size
            replace hp0 := hp0.next hh
            replace ha := ha.next hh
            replace x9 := x9.next hh
            replace hE := hE.trans (Ext.below hh (Nat.le_refl _))
            replace hV := hV.trans (hh.mono hV.size)
            clear hh
            have hb : Fix u3 u2.heap.size u3.heap.size vb P0 := ⟨hb, Nat.le_refl _⟩
            go_wp2_with fail
            refine ⟨fun _ => hE, ?_⟩
            refine wpAny_oneM 5 63 (by kernel_rfl) (by kernel_rfl) (of_decide_eq_true (by kernel_rfl)) (by rfl) ?_
            simp only [List.getD_cons_succ, List.getD_cons_zero]
            go_wp2_with fail
            refine ⟨fun h => absurd h (by decide), name_any fun u4 hw => ?_⟩
            have x10 : Box u4 u3.heap.size #[.int .i64 0, .int .i64 0, .int .i64 0, .slice none 0 0, .slice none 0 0, .slice none 0 0] 26 := hw ▸ Box.new _ _ _
            have hh : Below u3.heap.size u3 u4 := hw ▸ ((Below.refl _ _).alloc (Nat.le_refl _) _)
            have s4 : u3.heap.size < u4.heap.size := hw ▸ (by simp)
            clear hw
            replace hp0 := hp0.next hh
            replace ha := ha.next hh
            replace x9 := x9.next hh
            replace hb := hb.next hh
            replace hE := hE.trans (Ext.below hh (Nat.le_refl _))
            replace hV := hV.trans (hh.mono hV.size)
            clear hh
            obtain ⟨_, _, _, rfl, ⟨A3, a3, rfl, _⟩, ⟨A4, a4, rfl, _⟩, ⟨A5, a5, rfl, _⟩⟩ := id ha.1
            obtain ⟨_, _, _, rfl, ⟨B3, c3, rfl, _⟩, ⟨B4, c4, rfl, _⟩, ⟨B5, c5, rfl, _⟩⟩ := id hb.1
            obtain ⟨d0, d1, d2, d3, d4, d5⟩ := x9.six
            obtain ⟨f0, f1, f2, f3, f4, f5⟩ := x9.free
            refine wpAny_go 10 63 [6] 127 1 (by kernel_rfl) (by kernel_rfl) (fun _ _ _ _ _ h => h) (by kernel_rfl) (by rfl) (by rfl) (by kernel_rfl) ?_
            simp only [List.map_cons, List.map_nil, List.getD_cons_succ, List.getD_cons_zero]
            go_wp2_with fail
            change wpAnyM _ _ _ _ _ _ _ _ _ _
            clear d0 d1 d2 d3 d4 d5 f0 f1 f2 f3 f4 f5
            refine name_any fun uz hw => ?_
            have y10 : Box uz u3.heap.size #[.int .i64 0, .int .i64 0, .int .i64 0, .slice none 0 0, .slice none 0 0, .slice none 0 0] 26 := by rw [← hw]; exact x10.six_far (by omega)
            obtain ⟨d0, d1, d2, d3, d4, d5⟩ := y10.six
            obtain ⟨f0, f1, f2, f3, f4, f5⟩ := y10.free
            clear y10
            refine wpAny_go 10 127 [7] 255 0 (by kernel_rfl) (by kernel_rfl) (fun _ _ _ _ _ h => h) (by kernel_rfl) (by rfl) (by rfl) (by kernel_rfl) ?_
            simp only [List.map_cons, List.map_nil, List.getD_cons_succ, List.getD_cons_zero]
            go_wp2_with fail
            change wpAnyM _ _ _ _ _ _ _ _ _ _
            clear d0 d1 d2 d3 d4 d5 f0 f1 f2 f3 f4 f5
            subst hw
            refine wpAny_endM (by kernel_rfl) (by kernel_rfl) ?_
            go_wp2_with fail
            go_meet
            have z1 := ha.2; have z2 := hb.2
            exact Sides.of x9 x10 ha hb (by omega) (by omega) (by omega) (by omega) (by omega) (by omega) (by omega) (by omega) (by omega) hV
          ·
            simp only [List.getD_cons_succ, List.getD_cons_zero]
            go_wp2_with fail
            refine ⟨fun h => absurd h (by decide), name_any fun u3 hw => ?_⟩
            have x10 : Box u3 u2.heap.size #[.int .i64 0, .int .i64 0, .int .i64 0, .slice none 0 0, .slice none 0 0, .slice none 0 0] 26 := hw ▸ Box.new _ _ _
            have hh : Below u2.heap.size u2 u3 := hw ▸ ((Below.refl _ _).alloc (Nat.le_refl _) _)
            have s3 : u2.heap.size < u3.heap.size := hw ▸ (by simp)
            clear hw
            replace hp0 := hp0.next hh
            replace ha := ha.next hh
            replace x9 := x9.next hh
            replace hE := hE.trans (Ext.below hh (Nat.le_refl _))
            replace hV := hV.trans (hh.mono hV.size)
            clear hh
            refine wpAny_oneM 3 63 (by kernel_rfl) (by kernel_rfl) (of_decide_eq_true (by kernel_rfl)) (by rfl) ?_
            simp only [List.getD_cons_succ, List.getD_cons_zero]
            go_wp2_with fail
            refine (cut6_any _ P0 _ hp0).mono ?_
            rw [HCC.out]
            rintro e u4 ⟨⟨vb, rfl, hb⟩, hh⟩
            have s4 := hh.size
            replace hp0 := hp0.next hh
            replace ha := ha.next hh
            replace x9 := x9.next hh
            replace x10 := x10.next hh
            replace hE := hE.trans (Ext.below hh (Nat.le_refl _))
            replace hV := hV.trans (hh.mono hV.size)
            clear hh
            have hb : Fix u4 u3.heap.size u4.heap.size vb P0 := ⟨hb, Nat.le_refl _⟩
            go_wp2_with fail
            refine ⟨fun _ => hE, ?_⟩
            obtain ⟨_, _, _, rfl, ⟨A3, a3, rfl, _⟩, ⟨A4, a4, rfl, _⟩, ⟨A5, a5, rfl, _⟩⟩ := id ha.1
            obtain ⟨_, _, _, rfl, ⟨B3, c3, rfl, _⟩, ⟨B4, c4, rfl, _⟩, ⟨B5, c5, rfl, _⟩⟩ := id hb.1
            obtain ⟨d0, d1, d2, d3, d4, d5⟩ := x9.six
            obtain ⟨f0, f1, f2, f3, f4, f5⟩ := x9.free
            refine wpAny_go 10 63 [6] 127 1 (by kernel_rfl) (by kernel_rfl) (fun _ _ _ _ _ h => h) (by kernel_rfl) (by rfl) (by rfl) (by kernel_rfl) ?_
            simp only [List.map_cons, List.map_nil, List.getD_cons_succ, List.getD_cons_zero]
            go_wp2_with fail
            change wpAnyM _ _ _ _ _ _ _ _ _ _
            clear d0 d1 d2 d3 d4 d5 f0 f1 f2 f3 f4 f5
            refine name_any fun uz hw => ?_
            have y10 : Box uz u2.heap.size #[.int .i64 0, .int .i64 0, .int .i64 0, .slice none 0 0, .slice none 0 0, .slice none 0 0] 26 := by rw [← hw]; exact x10.six_far (by omega)
            obtain ⟨d0, d1, d2, d3, d4, d5⟩ := y10.six
            obtain ⟨f0, f1, f2, f3, f4, f5⟩ := y10.free
            clear y10
            refine wpAny_go 10 127 [7] 255 0 (by kernel_rfl) (by kernel_rfl) (fun _ _ _ _ _ h => h) (by kernel_rfl) (by rfl) (by rfl) (by kernel_rfl) ?_
            simp only [List.map_cons, List.map_nil, List.getD_cons_succ, List.getD_cons_zero]
            go_wp2_with fail
            change wpAnyM _ _ _ _ _ _ _ _ _ _
            clear d0 d1 d2 d3 d4 d5 f0 f1 f2 f3 f4 f5
            subst hw
            refine wpAny_endM (by kernel_rfl) (by kernel_rfl) ?_
            go_wp2_with fail
            go_meet
            have z1 := ha.2; have z2 := hb.2
            exact Sides.of x9 x10 ha hb (by omega) (by omega) (by omega) (by omega) (by omega) (by omega) (by omega) (by omega) (by omega) hV
        ·
          simp only [List.getD_cons_succ, List.getD_cons_zero]
          go_wp2_with fail
          refine ⟨fun h => absurd h (by decide), name_any fun u2 hw => ?_⟩
          have x10 : Box u2 u1.heap.size #[.int .i64 0, .int .i64 0, .int .i64 0, .slice none 0 0, .slice none 0 0, .slice none 0 0] 26 := hw ▸ Box.new _ _ _
          have hh : Below u1.heap.size u1 u2 := hw ▸ ((Below.refl _ _).alloc (Nat.le_refl _) _)
          have s2 : u1.heap.size < u2.heap.size := hw ▸ (by simp)
          clear hw
          replace hp0 := hp0.next hh
          replace ha := ha.next hh
          replace hE := hE.trans (Ext.below hh (Nat.le_refl _))
          replace hV := hV.trans (hh.mono hV.size)
          clear hh
          refine wpAny_twoM 3 4 47 55 (by kernel_rfl) (by kernel_rfl) (of_decide_eq_true (by kernel_rfl)) (of_decide_eq_true (by kernel_rfl)) (by rfl) (by rfl) ?_ ?_
          ·
            simp only [List.getD_cons_succ, List.getD_cons_zero]
            go_wp2_with fail
            refine (cut6_any _ P0 _ hp0).mono ?_
            rw [HCC.out]
            rintro e u3 ⟨⟨vb, rfl, hb⟩, hh⟩
            have s3 := hh.size
            replace hp0 := hp0.next hh
            replace ha := ha.next hh
            replace x10 := x10.next hh
            replace hE := hE.trans (Ext.below hh (Nat.le_refl _))
            replace hV := hV.trans (hh.mono hV.size)
            clear hh
            have hb : Fix u3 u2.heap.size u3.heap.size vb P0 := ⟨hb, Nat.le_refl _⟩
            go_wp2_with fail
            refine ⟨fun _ => hE, ?_⟩
            refine wpAny_oneM 4 63 (by kernel_rfl) (by kernel_rfl) (of_decide_eq_true (by kernel_rfl)) (by rfl) ?_
            simp only [List.getD_cons_succ, List.getD_cons_zero]
            go_wp2_with fail
            refine ⟨fun h => absurd h (by decide), name_any fun u4 hw => ?_⟩
            have x9 : Box u4 u3.heap.size #[.int .i64 0, .int .i64 0, .int .i64 0, .slice none 0 0, .slice none 0 0, .slice none 0 0] 26 := hw ▸ Box.new _ _ _
            have hh : Below u3.heap.size u3 u4 := hw ▸ ((Below.refl _ _).alloc (Nat.le_refl _) _)
            have s4 : u3.heap.size < u4.heap.size := hw ▸ (by simp)
            clear hw
            replace hp0 := hp0.next hh
            replace ha := ha.next hh
            replace x10 := x10.next hh
            replace hb := hb.next hh
            replace hE := hE.trans (Ext.below hh (Nat.le_refl _))
            replace hV := hV.trans (hh.mono hV.size)
            clear hh
            obtain ⟨_, _, _, rfl, ⟨A3, a3, rfl, _⟩, ⟨A4, a4, rfl, _⟩, ⟨A5, a5, rfl, _⟩⟩ := id ha.1
            obtain ⟨_, _, _, rfl, ⟨B3, c3, rfl, _⟩, ⟨B4, c4, rfl, _⟩, ⟨B5, c5, rfl, _⟩⟩ := id hb.1
            obtain ⟨d0, d1, d2, d3, d4, d5⟩ := x9.six
            obtain ⟨f0, f1, f2, f3, f4, f5⟩ := x9.free
            refine wpAny_go 10 63 [6] 127 1 (by kernel_rfl) (by kernel_rfl) (fun _ _ _ _ _ h => h) (by kernel_rfl) (by rfl) (by rfl) (by kernel_rfl) ?_
            simp only [List.map_cons, List.map_nil, List.getD_cons_succ, List.getD_cons_zero]
            go_wp2_with fail
            change wpAnyM _ _ _ _ _ _ _ _ _ _
            clear d0 d1 d2 d3 d4 d5 f0 f1 f2 f3 f4 f5
            refine name_any fun uz hw => ?_
            have y10 : Box uz u1.heap.size #[.int .i64 0, .int .i64 0, .int .i64 0, .slice none 0 0, .slice none 0 0, .slice none 0 0] 26 := by rw [← hw]; exact x10.six_far (by omega)
            obtain ⟨d0, d1, d2, d3, d4, d5⟩ := y10.six
            obtain ⟨f0, f1, f2, f3, f4, f5⟩ := y10.free
            clear y10
            refine wpAny_go 10 127 [7] 255 0 (by kernel_rfl) (by kernel_rfl) (fun _ _ _ _ _ h => h) (by kernel_rfl) (by rfl) (by rfl) (by kernel_rfl) ?_
            simp only [List.map_cons, List.map_nil, List.getD_cons_succ, List.getD_cons_zero]
            go_wp2_with fail
            change wpAnyM _ _ _ _ _ _ _ _ _ _
            clear d0 d1 d2 d3 d4 d5 f0 f1 f2 f3 f4 f5
            subst hw
            refine wpAny_endM (by kernel_rfl) (by kernel_rfl) ?_
            go_wp2_with fail
            go_meet
            have z1 := ha.2; have z2 := hb.2
            exact Sides.of x9 x10 ha hb (by omega) (by omega) (by omega) (by omega) (by omega) (by omega) (by omega) (by omega) (by omega) hV
          ·
            simp only [List.getD_cons_succ, List.getD_cons_zero]
            go_wp2_with fail
            refine ⟨fun h => absurd h (by decide), name_any fun u3 hw => ?_⟩
            have x9 : Box u3 u2.heap.size #[.int .i64 0, .int .i64 0, .int .i64 0, .slice none 0 0, .slice none 0 0, .slice none 0 0] 26 := hw ▸ Box.new _ _ _
            have hh : Below u2.heap.size u2 u3 := hw ▸ ((Below.refl _ _).alloc (Nat.le_refl _) _)
            have s3 : u2.heap.size < u3.heap.size := hw ▸ (by simp)
            clear hw
            replace hp0 := hp0.next hh
            replace ha := ha.next hh
            replace x10 := x10.next hh
            replace hE := hE.trans (Ext.below hh (Nat.le_refl _))
            replace hV := hV.trans (hh.mono hV.size)
            clear hh
            refine wpAny_oneM 3 63 (by kernel_rfl) (by kernel_rfl) (of_decide_eq_true (by kernel_rfl)) (by rfl) ?_
            simp only [List.getD_cons_succ, List.getD_cons_zero]
            go_wp2_with fail
            refine (cut6_any _ P0 _ hp0).mono ?_
            rw [HCC.out]
            rintro e u4 ⟨⟨vb, rfl, hb⟩, hh⟩
            have s4 := hh.size
            replace hp0 := hp0.next hh
            replace ha := ha.next hh
            replace x10 := x10.next hh
            replace x9 := x9.next hh
            replace hE := hE.trans (Ext.below hh (Nat.le_refl _))
            replace hV := hV.trans (hh.mono hV.size)
            clear hh
            have hb : Fix u4 u3.heap.size u4.heap.size vb P0 := ⟨hb, Nat.le_refl _⟩
            go_wp2_with fail
            refine ⟨fun _ => hE, ?_⟩
            obtain ⟨_, _, _, rfl, ⟨A3, a3, rfl, _⟩, ⟨A4, a4, rfl, _⟩, ⟨A5, a5, rfl, _⟩⟩ := id ha.1
            obtain ⟨_, _, _, rfl, ⟨B3, c3, rfl, _⟩, ⟨B4, c4, rfl, _⟩, ⟨B5, c5, rfl, _⟩⟩ := id hb.1
            obtain ⟨d0, d1, d2, d3, d4, d5⟩ := x9.six
            obtain ⟨f0, f1, f2, f3, f4, f5⟩ := x9.free
            refine wpAny_go 10 63 [6] 127 1 (by kernel_rfl) (by kernel_rfl) (fun _ _ _ _ _ h => h) (by kernel_rfl) (by rfl) (by rfl) (by kernel_rfl) ?_
            simp only [List.map_cons, List.map_nil, List.getD_cons_succ, List.getD_cons_zero]
            go_wp2_with fail
            change wpAnyM _ _ _ _ _ _ _ _ _ _
            clear d0 d1 d2 d3 d4 d5 f0 f1 f2 f3 f4 f5
            refine name_any fun uz hw => ?_
            have y10 : Box uz u1.heap.size #[.int .i64 0, .int .i64 0, .int .i64 0, .slice none 0 0, .slice none 0 0, .slice none 0 0] 26 := by rw [← hw]; exact x10.six_far (by omega)
            obtain ⟨d0, d1, d2, d3, d4, d5⟩ := y10.six
            obtain ⟨f0, f1, f2, f3, f4, f5⟩ := y10.free
            clear y10
            refine wpAny_go 10 127 [7] 255 0 (by kernel_rfl) (by kernel_rfl) (fun _ _ _ _ _ h => h) (by kernel_rfl) (by rfl) (by rfl) (by kernel_rfl) ?_
            simp only [List.map_cons, List.map_nil, List.getD_cons_succ, List.getD_cons_zero]
            go_wp2_with fail
            change wpAnyM _ _ _ _ _ _ _ _ _ _
            clear d0 d1 d2 d3 d4 d5 f0 f1 f2 f3 f4 f5
            subst hw
            refine wpAny_endM (by kernel_rfl) (by kernel_rfl) ?_
            go_wp2_with fail
            go_meet
            have z1 := ha.2; have z2 := hb.2
            exact Sides.of x9 x10 ha hb (by omega) (by omega) (by omega) (by omega) (by omega) (by omega) (by omega) (by omega) (by omega) hV
      ·
        simp only [List.getD_cons_succ, List.getD_cons_zero]
        go_wp2_with fail
        refine ⟨fun h => absurd h (by decide), name_any fun u1 hw => ?_⟩
        have x9 : Box u1 u0.heap.size #[.int .i64 0, .int .i64 0, .int .i64 0, .slice none 0 0, .slice none 0 0, .slice none 0 0] 26 := hw ▸ Box.new _ _ _
        have hh : Below u0.heap.size u0 u1 := hw ▸ ((Below.refl _ _).alloc (Nat.le_refl _) _)
        have s1 : u0.heap.size < u1.heap.size := hw ▸ (by simp)
        clear hw
        replace hp0 := hp0.next hh
        replace hE := hE.trans (Ext.below hh (Nat.le_refl _))
        replace hV := hV.trans (hh.mono hV.size)
        clear hh
        refine wpAny_twoM 1 5 23 53 (by kernel_rfl) (by kernel_rfl) (of_decide_eq_true (by kernel_rfl)) (of_decide_eq_true (by kernel_rfl)) (by rfl) (by rfl) ?_ ?_
        ·
          simp only [List.getD_cons_succ, List.getD_cons_zero]
          go_wp2_with fail
          refine (Own_any _ P0 _ hp0 hsz0).mono ?_
          rintro e u2 ⟨⟨va, rfl, ha⟩, hh⟩
          have s2 := hh.size
          replace hp0 := hp0.next hh
          replace x9 := x9.next hh
          replace hE := hE.trans (Ext.below hh (Nat.le_refl _))
          replace hV := hV.trans (hh.mono hV.size)
          clear hh
          have ha : Fix u2 u1.heap.size u2.heap.size va P0 := ⟨ha, Nat.le_refl _⟩
          go_wp2_with fail
          refine ⟨fun _ => hE, ?_⟩
          refine wpAny_twoM 3 5 31 55 (by kernel_rfl) (by kernel_rfl) (of_decide_eq_true (by kernel_rfl)) (of_decide_eq_true (by kernel_rfl)) (by rfl) (by rfl) ?_ ?_
          ·
            simp only [List.getD_cons_succ, List.getD_cons_zero]
            go_wp2_with fail
            refine (cut6_any _ P0 _ hp0).mono ?_
            rw [HCC.out]
            rintro e u3 ⟨⟨vb, rfl, hb⟩, hh⟩
            have s3 := hh.size
            replace hp0 := hp0.next hh
            replace x9 := x9.next hh
            replace ha := ha.next hh
            replace hE := hE.trans (Ext.below hh (Nat.le_refl _))
            replace hV := hV.trans (hh.mono hV.size)
            clear hh
            have hb : Fix u3 u2.heap.size u3.heap.size vb P0 := ⟨hb, Nat.le_refl _⟩
            go_wp2_with fail
            refine ⟨fun _ => hE, ?_⟩
            refine wpAny_oneM 5 63 (by kernel_rfl) (by kernel_rfl) (of_decide_eq_true (by kernel_rfl)) (by rfl) ?_
            simp only [List.getD_cons_succ, List.getD_cons_zero]
            go_wp2_with fail
            refine ⟨fun h => absurd h (by decide), name_any fun u4 hw => ?_⟩
            have x10 : Box u4 u3.heap.size #[.int .i64 0, .int .i64 0, .int .i64 0, .slice none 0 0, .slice none 0 0, .slice none 0 0] 26 := hw ▸ Box.new _ _ _
            have hh : Below u3.heap.size u3 u4 := hw ▸ ((Below.refl _ _).alloc (Nat.le_refl _) _)
            have s4 : u3.heap.size < u4.heap.size := hw ▸ (by simp)
            clear hw
            replace hp0 := hp0.next hh
            replace x9 := x9.next hh
            replace ha := ha.next hh
            replace hb := hb.next hh
            replace hE := hE.trans (Ext.below hh (Nat.le_refl _))
            replace hV := hV.trans (hh.mono hV.size)
            clear hh
            obtain ⟨_, _, _, rfl, ⟨A3, a3, rfl, _⟩, ⟨A4, a4, rfl, _⟩, ⟨A5, a5, rfl, _⟩⟩ := id ha.1
            obtain ⟨_, _, _, rfl, ⟨B3, c3, rfl, _⟩, ⟨B4, c4, rfl, _⟩, ⟨B5, c5, rfl, _⟩⟩ := id hb.1
            obtain ⟨d0, d1, d2, d3, d4, d5⟩ := x9.six
            obtain ⟨f0, f1, f2, f3, f4, f5⟩ := x9.free
            refine wpAny_go 10 63 [6] 127 1 (by kernel_rfl) (by kernel_rfl) (fun _ _ _ _ _ h => h) (by kernel_rfl) (by rfl) (by rfl) (by kernel_rfl) ?_
            simp only [List.map_cons, List.map_nil, List.getD_cons_succ, List.getD_cons_zero]
            go_wp2_with fail
            change wpAnyM _ _ _ _ _ _ _ _ _ _
            clear d0 d1 d2 d3 d4 d5 f0 f1 f2 f3 f4 f5
            refine name_any fun uz hw => ?_
            have y10 : Box uz u3.heap.size #[.int .i64 0, .int .i64 0, .int .i64 0, .slice none 0 0, .slice none 0 0, .slice none 0 0] 26 := by rw [← hw]; exact x10.six_far (by omega)
            obtain ⟨d0, d1, d2, d3, d4, d5⟩ := y10.six
            obtain ⟨f0, f1, f2, f3, f4, f5⟩ := y10.free
            clear y10
            refine wpAny_go 10 127 [7] 255 0 (by kernel_rfl) (by kernel_rfl) (fun _ _ _ _ _ h => h) (by kernel_rfl) (by rfl) (by rfl) (by kernel_rfl) ?_
            simp only [List.map_cons, List.map_nil, List.getD_cons_succ, List.getD_cons_zero]
            go_wp2_with fail
            change wpAnyM _ _ _ _ _ _ _ _ _ _
            clear d0 d1 d2 d3 d4 d5 f0 f1 f2 f3 f4 f5
            subst hw
            refine wpAny_endM (by kernel_rfl) (by kernel_rfl) ?_
            go_wp2_with fail
            go_meet
            have z1 := ha.2; have z2 := hb.2
            exact Sides.of x9 x10 ha hb (by omega) (by omega) (by omega) (by omega) (by omega) (by omega) (by omega) (by omega) (by omega) hV
          ·
            simp only [List.getD_cons_succ, List.getD_cons_zero]
            go_wp2_with fail
            refine ⟨fun h => absurd h (by decide), name_any fun u3 hw => ?_⟩
            have x10 : Box u3 u2.heap.size #[.int .i64 0, .int .i64 0, .int .i64 0, .slice none 0 0, .slice none 0 0, .slice none 0 0] 26 := hw ▸ Box.new _ _ _
            have hh : Below u2.heap.size u2 u3 := hw ▸ ((Below.refl _ _).alloc (Nat.le_refl _) _)
            have s3 : u2.heap.size < u3.heap.size := hw ▸ (by simp)
            clear hw
            replace hp0 := hp0.next hh
            replace x9 := x9.next hh
            replace ha := ha.next hh
            replace hE := hE.trans (Ext.below hh (Nat.le_refl _))
            replace hV := hV.trans (hh.mono hV.size)
            clear hh
            refine wpAny_oneM 3 63 (by kernel_rfl) (by kernel_rfl) (of_decide_eq_true (by kernel_rfl)) (by rfl) ?_
            simp only [List.getD_cons_succ, List.getD_cons_zero]
            go_wp2_with fail
            refine (cut6_any _ P0 _ hp0).mono ?_
            rw [HCC.out]
            rintro e u4 ⟨⟨vb, rfl, hb⟩, hh⟩
            have s4 := hh.size
            replace hp0 := hp0.next hh
            replace x9 := x9.next hh
            replace ha := ha.next hh
            replace x10 := x10.next hh
            replace hE := hE.trans (Ext.below hh (Nat.le_refl _))
            replace hV := hV.trans (hh.mono hV.size)
            clear hh
            have hb : Fix u4 u3.heap.size u4.heap.size vb P0 := ⟨hb, Nat.le_refl _⟩
            go_wp2_with fail
            refine ⟨fun _ => hE, ?_⟩
            obtain ⟨_, _, _, rfl, ⟨A3, a3, rfl, _⟩, ⟨A4, a4, rfl, _⟩, ⟨A5, a5, rfl, _⟩⟩ := id ha.1
            obtain ⟨_, _, _, rfl, ⟨B3, c3, rfl, _⟩, ⟨B4, c4, rfl, _⟩, ⟨B5, c5, rfl, _⟩⟩ := id hb.1
            obtain ⟨d0, d1, d2, d3, d4, d5⟩ := x9.six
            obtain ⟨f0, f1, f2, f3, f4, f5⟩ := x9.free
            refine wpAny_go 10 63 [6] 127 1 (by kernel_rfl) (by kernel_rfl) (fun _ _ _ _ _ h => h) (by kernel_rfl) (by rfl) (by rfl) (by kernel_rfl) ?_
            simp only [List.map_cons, List.map_nil, List.getD_cons_succ, List.getD_cons_zero]
            go_wp2_with fail
            change wpAnyM _ _ _ _ _ _ _ _ _ _
            clear d0 d1 d2 d3 d4 d5 f0 f1 f2 f3 f4 f5
            refine name_any fun uz hw => ?_
            have y10 : Box uz u2.heap.size #[.int .i64 0, .int .i64 0, .int .i64 0, .slice none 0 0, .slice none 0 0, .slice none 0 0] 26 := by rw [← hw]; exact x10.six_far (by omega)
            obtain ⟨d0, d1, d2, d3, d4, d5⟩ := y10.six
            obtain ⟨f0, f1, f2, f3, f4, f5⟩ := y10.free
            clear y10
            refine wpAny_go 10 127 [7] 255 0 (by kernel_rfl) (by kernel_rfl) (fun _ _ _ _ _ h => h) (by kernel_rfl) (by rfl) (by rfl) (by kernel_rfl) ?_
            simp only [List.map_cons, List.map_nil, List.getD_cons_succ, List.getD_cons_zero]
            go_wp2_with fail
            change wpAnyM _ _ _ _ _ _ _ _ _ _
            clear d0 d1 d2 d3 d4 d5 f0 f1 f2 f3 f4 f5
            subst hw
            refine wpAny_endM (by kernel_rfl) (by kernel_rfl) ?_
            go_wp2_with fail
            go_meet
            have z1 := ha.2; have z2 := hb.2
            exact Sides.of x9 x10 ha hb (by omega) (by omega) (by omega) (by omega) (by omega) (by omega) (by omega) (by omega) (by omega) hV
        ·
          simp only [List.getD_cons_succ, List.getD_cons_zero]
          go_wp2_with fail
          refine ⟨fun h => absurd h (by decide), name_any fun u2 hw => ?_⟩
          have x10 : Box u2 u1.heap.size #[.int .i64 0, .int .i64 0, .int .i64 0, .slice none 0 0, .slice none 0 0, .slice none 0 0] 26 := hw ▸ Box.new _ _ _
          have hh : Below u1.heap.size u1 u2 := hw ▸ ((Below.refl _ _).alloc (Nat.le_refl _) _)
          have s2 : u1.heap.size < u2.heap.size := hw ▸ (by simp)
          clear hw
          replace hp0 := hp0.next hh
          replace x9 := x9.next hh
          replace hE := hE.trans (Ext.below hh (Nat.le_refl _))
          replace hV := hV.trans (hh.mono hV.size)
          clear hh
          refine wpAny_oneM 1 55 (by kernel_rfl) (by kernel_rfl) (of_decide_eq_true (by kernel_rfl)) (by rfl) ?_
          simp only [List.getD_cons_succ, List.getD_cons_zero]
          go_wp2_with fail
          refine (Own_any _ P0 _ hp0 hsz0).mono ?_
          rintro e u3 ⟨⟨va, rfl, ha⟩, hh⟩
          have s3 := hh.size
          replace hp0 := hp0.next hh
          replace x9 := x9.next hh
          replace x10 := x10.next hh
          replace hE := hE.trans (Ext.below hh (Nat.le_refl _))
          replace hV := hV.trans (hh.mono hV.size)
          clear hh
          have ha : Fix u3 u2.heap.size u3.heap.size va P0 := ⟨ha, Nat.le_refl _⟩
          go_wp2_with fail
          refine ⟨fun _ => hE, ?_⟩
          refine wpAny_oneM 3 63 (by kernel_rfl) (by kernel_rfl) (of_decide_eq_true (by kernel_rfl)) (by rfl) ?_
          simp only [List.getD_cons_succ, List.getD_cons_zero]
          go_wp2_with fail
          refine (cut6_any _ P0 _ hp0).mono ?_
          rw [HCC.out]
          rintro e u4 ⟨⟨vb, rfl, hb⟩, hh⟩
          have s4 := hh.size
          replace hp0 := hp0.next hh
          replace x9 := x9.next hh
          replace x10 := x10.next hh
          replace ha := ha.next hh
          replace hE := hE.trans (Ext.below hh (Nat.le_refl _))
          replace hV := hV.trans (hh.mono hV.size)
          clear hh
          have hb : Fix u4 u3.heap.size u4.heap.size vb P0 := ⟨hb, Nat.le_refl _⟩
          go_wp2_with fail
          refine ⟨fun _ => hE, ?_⟩
          obtain ⟨_, _, _, rfl, ⟨A3, a3, rfl, _⟩, ⟨A4, a4, rfl, _⟩, ⟨A5, a5, rfl, _⟩⟩ := id ha.1
          obtain ⟨_, _, _, rfl, ⟨B3, c3, rfl, _⟩, ⟨B4, c4, rfl, _⟩, ⟨B5, c5, rfl, _⟩⟩ := id hb.1
          obtain ⟨d0, d1, d2, d3, d4, d5⟩ := x9.six
          obtain ⟨f0, f1, f2, f3, f4, f5⟩ := x9.free
          refine wpAny_go 10 63 [6] 127 1 (by kernel_rfl) (by kernel_rfl) (fun _ _ _ _ _ h => h) (by kernel_rfl) (by rfl) (by rfl) (by kernel_rfl) ?_
          simp only [List.map_cons, List.map_nil, List.getD_cons_succ, List.getD_cons_zero]
          go_wp2_with fail
          change wpAnyM _ _ _ _ _ _ _ _ _ _
          clear d0 d1 d2 d3 d4 d5 f0 f1 f2 f3 f4 f5
          refine name_any fun uz hw => ?_
          have y10 : Box uz u1.heap.size #[.int .i64 0, .int .i64 0, .int .i64 0, .slice none 0 0, .slice none 0 0, .slice none 0 0] 26 := by rw [← hw]; exact x10.six_far (by omega)
          obtain ⟨d0, d1, d2, d3, d4, d5⟩ := y10.six
          obtain ⟨f0, f1, f2, f3, f4, f5⟩ := y10.free
          clear y10
          refine wpAny_go 10 127 [7] 255 0 (by kernel_rfl) (by kernel_rfl) (fun _ _ _ _ _ h => h) (by kernel_rfl) (by rfl) (by rfl) (by kernel_rfl) ?_
          simp only [List.map_cons, List.map_nil, List.getD_cons_succ, List.getD_cons_zero]
          go_wp2_with fail
          change wpAnyM _ _ _ _ _ _ _ _ _ _
          clear d0 d1 d2 d3 d4 d5 f0 f1 f2 f3 f4 f5
          subst hw
          refine wpAny_endM (by kernel_rfl) (by kernel_rfl) ?_
          go_wp2_with fail
          go_meet
          have z1 := ha.2; have z2 := hb.2
          exact Sides.of x9 x10 ha hb (by omega) (by omega) (by omega) (by omega) (by omega) (by omega) (by omega) (by omega) (by omega) hV
      ·
        simp only [List.getD_cons_succ, List.getD_cons_zero]
        go_wp2_with fail
        refine ⟨fun h => absurd h (by decide), name_any fun u1 hw => ?_⟩
        have x10 : Box u1 u0.heap.size #[.int .i64 0, .int .i64 0, .int .i64 0, .slice none 0 0, .slice none 0 0, .slice none 0 0] 26 := hw ▸ Box.new _ _ _
        have hh : Below u0.heap.size u0 u1 := hw ▸ ((Below.refl _ _).alloc (Nat.le_refl _) _)
        have s1 : u0.heap.size < u1.heap.size := hw ▸ (by simp)
        clear hw
        replace hp0 := hp0.next hh
        replace hE := hE.trans (Ext.below hh (Nat.le_refl _))
        replace hV := hV.trans (hh.mono hV.size)
        clear hh
        refine wpAny_twoM 1 4 39 53 (by kernel_rfl) (by kernel_rfl) (of_decide_eq_true (by kernel_rfl)) (of_decide_eq_true (by kernel_rfl)) (by rfl) (by rfl) ?_ ?_
        ·
          simp only [List.getD_cons_succ, List.getD_cons_zero]
          go_wp2_with fail
          refine (Own_any _ P0 _ hp0 hsz0).mono ?_
          rintro e u2 ⟨⟨va, rfl, ha⟩, hh⟩
          have s2 := hh.size
          replace hp0 := hp0.next hh
          replace x10 := x10.next hh
          replace hE := hE.trans (Ext.below hh (Nat.le_refl _))
          replace hV := hV.trans (hh.mono hV.size)
          clear hh
          have ha : Fix u2 u1.heap.size u2.heap.size va P0 := ⟨ha, Nat.le_refl _⟩
          go_wp2_with fail
          refine ⟨fun _ => hE, ?_⟩
          refine wpAny_twoM 3 4 47 55 (by kernel_rfl) (by kernel_rfl) (of_decide_eq_true (by kernel_rfl)) (of_decide_eq_true (by kernel_rfl)) (by rfl) (by rfl) ?_ ?_
          ·
            simp only [List.getD_cons_succ, List.getD_cons_zero]
            go_wp2_with fail
            refine (cut6_any _ P0 _ hp0).mono ?_
            rw [HCC.out]
            rintro e u3 ⟨⟨vb, rfl, hb⟩, hh⟩
            have s3 := hh.size
            replace hp0 := hp0.next hh
            replace x10 := x10.next hh
            replace ha := ha.next hh
            replace hE := hE.trans (Ext.below hh (Nat.le_refl _))
            replace hV := hV.trans (hh.mono hV.size)
            clear hh
            have hb : Fix u3 u2.heap.size u3.heap.size vb P0 := ⟨hb, Nat.le_refl _⟩
            go_wp2_with fail
            refine ⟨fun _ => hE, ?_⟩
            refine wpAny_oneM 4 63 (by kernel_rfl) (by kernel_rfl) (of_decide_eq_true (by kernel_rfl)) (by rfl) ?_
            simp only [List.getD_cons_succ, List.getD_cons_zero]
            go_wp2_with fail
            refine ⟨fun h => absurd h (by decide), name_any fun u4 hw => ?_⟩
            have x9 : Box u4 u3.heap.size #[.int .i64 0, .int .i64 0, .int .i64 0, .slice none 0 0, .slice none 0 0, .slice none 0 0] 26 := hw ▸ Box.new _ _ _
            have hh : Below u3.heap.size u3 u4 := hw ▸ ((Below.refl _ _).alloc (Nat.le_refl _) _)
            have s4 : u3.heap.size < u4.heap.size := hw ▸ (by simp)
            clear hw
            replace hp0 := hp0.next hh
            replace x10 := x10.next hh
            replace ha := ha.next hh
            replace hb := hb.next hh
            replace hE := hE.trans (Ext.below hh (Nat.le_refl _))
            replace hV := hV.trans (hh.mono hV.size)
            clear hh
            obtain ⟨_, _, _, rfl, ⟨A3, a3, rfl, _⟩, ⟨A4, a4, rfl, _⟩, ⟨A5, a5, rfl, _⟩⟩ := id ha.1
            obtain ⟨_, _, _, rfl, ⟨B3, c3, rfl, _⟩, ⟨B4, c4, rfl, _⟩, ⟨B5, c5, rfl, _⟩⟩ := id hb.1
            obtain ⟨d0, d1, d2, d3, d4, d5⟩ := x9.six
            obtain ⟨f0, f1, f2, f3, f4, f5⟩ := x9.free
            refine wpAny_go 10 63 [6] 127 1 (by kernel_rfl) (by kernel_rfl) (fun _ _ _ _ _ h => h) (by kernel_rfl) (by rfl) (by rfl) (by kernel_rfl) ?_
            simp only [List.map_cons, List.map_nil, List.getD_cons_succ, List.getD_cons_zero]
            go_wp2_with fail
            change wpAnyM _ _ _ _ _ _ _ _ _ _
            clear d0 d1 d2 d3 d4 d5 f0 f1 f2 f3 f4 f5
            refine name_any fun uz hw => ?_
            have y10 : Box uz u0.heap.size #[.int .i64 0, .int .i64 0, .int .i64 0, .slice none 0 0, .slice none 0 0, .slice none 0 0] 26 := by rw [← hw]; exact x10.six_far (by omega)
            obtain ⟨d0, d1, d2, d3, d4, d5⟩ := y10.six
            obtain ⟨f0, f1, f2, f3, f4, f5⟩ := y10.free
            clear y10
            refine wpAny_go 10 127 [7] 255 0 (by kernel_rfl) (by kernel_rfl) (fun _ _ _ _ _ h => h) (by kernel_rfl) (by rfl) (by rfl) (by kernel_rfl) ?_
            simp only [List.map_cons, List.map_nil, List.getD_cons_succ, List.getD_cons_zero]
            go_wp2_with fail
            change wpAnyM _ _ _ _ _ _ _ _ _ _
            clear d0 d1 d2 d3 d4 d5 f0 f1 f2 f3 f4 f5
            subst hw
            refine wpAny_endM (by kernel_rfl) (by kernel_rfl) ?_
            go_wp2_with fail
            go_meet
            have z1 := ha.2; have z2 := hb.2
            exact Sides.of x9 x10 ha hb (by omega) (by omega) (by omega) (by omega) (by omega) (by omega) (by omega) (by omega) (by omega) hV
          ·
            simp only [List.getD_cons_succ, List.getD_cons_zero]
            go_wp2_with fail
            refine ⟨fun h => absurd h (by decide), name_any fun u3 hw => ?_⟩
            have x9 : Box u3 u2.heap.size #[.int .i64 0, .int .i64 0, .int .i64 0, .slice none 0 0, .slice none 0 0, .slice none 0 0] 26 := hw ▸ Box.new _ _ _
            have hh : Below u2.heap.size u2 u3 := hw ▸ ((Below.refl _ _).alloc (Nat.le_refl _) _)
            have s3 : u2.heap.size < u3.heap.size := hw ▸ (by simp)
            clear hw
            replace hp0 := hp0.next hh
            replace x10 := x10.next hh
            replace ha := ha.next hh
            replace hE := hE.trans (Ext.below hh (Nat.le_refl _))
            replace hV := hV.trans (hh.mono hV.size)
            clear hh
            refine wpAny_oneM 3 63 (by kernel_rfl) (by kernel_rfl) (of_decide_eq_true (by kernel_rfl)) (by rfl) ?_
            simp only [List.getD_cons_succ, List.getD_cons_zero]
            go_wp2_with fail
            refine (cut6_any _ P0 _ hp0).mono ?_
            rw [HCC.out]
            rintro e u4 ⟨⟨vb, rfl, hb⟩, hh⟩
            have s4 := hh.size
            replace hp0 := hp0.next hh
            replace x10 := x10.next hh
            replace ha := ha.next hh
            replace x9 := x9.next hh
            replace hE := hE.trans (Ext.below hh (Nat.le_refl _))
            replace hV := hV.trans (hh.mono hV.size)
            clear hh
            have hb : Fix u4 u3.heap.size u4.heap.size vb P0 := ⟨hb, Nat.le_refl _⟩
            go_wp2_with fail
            refine ⟨fun _ => hE, ?_⟩
            obtain ⟨_, _, _, rfl, ⟨A3, a3, rfl, _⟩, ⟨A4, a4, rfl, _⟩, ⟨A5, a5, rfl, _⟩⟩ := id ha.1
            obtain ⟨_, _, _, rfl, ⟨B3, c3, rfl, _⟩, ⟨B4, c4, rfl, _⟩, ⟨B5, c5, rfl, _⟩⟩ := id hb.1
            obtain ⟨d0, d1, d2, d3, d4, d5⟩ := x9.six
            obtain ⟨f0, f1, f2, f3, f4, f5⟩ := x9.free
            refine wpAny_go 10 63 [6] 127 1 (by kernel_rfl) (by kernel_rfl) (fun _ _ _ _ _ h => h) (by kernel_rfl) (by rfl) (by rfl) (by kernel_rfl) ?_
            simp only [List.map_cons, List.map_nil, List.getD_cons_succ, List.getD_cons_zero]
            go_wp2_with fail
            change wpAnyM _ _ _ _ _ _ _ _ _ _
            clear d0 d1 d2 d3 d4 d5 f0 f1 f2 f3 f4 f5
            refine name_any fun uz hw => ?_
            have y10 : Box uz u0.heap.size #[.int .i64 0, .int .i64 0, .int .i64 0, .slice none 0 0, .slice none 0 0, .slice none 0 0] 26 := by rw [← hw]; exact x10.six_far (by omega)
            obtain ⟨d0, d1, d2, d3, d4, d5⟩ := y10.six
            obtain ⟨f0, f1, f2, f3, f4, f5⟩ := y10.free
            clear y10
            refine wpAny_go 10 127 [7] 255 0 (by kernel_rfl) (by kernel_rfl) (fun _ _ _ _ _ h => h) (by kernel_rfl) (by rfl) (by rfl) (by kernel_rfl) ?_
            simp only [List.map_cons, List.map_nil, List.getD_cons_succ, List.getD_cons_zero]
            go_wp2_with fail
            change wpAnyM _ _ _ _ _ _ _ _ _ _
            clear d0 d1 d2 d3 d4 d5 f0 f1 f2 f3 f4 f5
            subst hw
            refine wpAny_endM (by kernel_rfl) (by kernel_rfl) ?_
            go_wp2_with fail
            go_meet
            have z1 := ha.2; have z2 := hb.2
            exact Sides.of x9 x10 ha hb (by omega) (by omega) (by omega) (by omega) (by omega) (by omega) (by omega) (by omega) (by omega) hV
        ·
          simp only [List.getD_cons_succ, List.getD_cons_zero]
          go_wp2_with fail
          refine ⟨fun h => absurd h (by decide), name_any fun u2 hw => ?_⟩
          have x9 : Box u2 u1.heap.size #[.int .i64 0, .int .i64 0, .int .i64 0, .slice none 0 0, .slice none 0 0, .slice none 0 0] 26 := hw ▸ Box.new _ _ _
          have hh : Below u1.heap.size u1 u2 := hw ▸ ((Below.refl _ _).alloc (Nat.le_refl _) _)
          have s2 : u1.heap.size < u2.heap.size := hw ▸ (by simp)
          clear hw
          replace hp0 := hp0.next hh
          replace x10 := x10.next hh
          replace hE := hE.trans (Ext.below hh (Nat.le_refl _))
          replace hV := hV.trans (hh.mono hV.size)
          clear hh
          refine wpAny_oneM 1 55 (by kernel_rfl) (by kernel_rfl) (of_decide_eq_true (by kernel_rfl)) (by rfl) ?_
          simp only [List.getD_cons_succ, List.getD_cons_zero]
          go_wp2_with fail
          refine (Own_any _ P0 _ hp0 hsz0).mono ?_
          rintro e u3 ⟨⟨va, rfl, ha⟩, hh⟩
          have s3 := hh.size
          replace hp0 := hp0.next hh
          replace x10 := x10.next hh
          replace x9 := x9.next hh
          replace hE := hE.trans (Ext.below hh (Nat.le_refl _))
          replace hV := hV.trans (hh.mono hV.size)
          clear hh
          have ha : Fix u3 u2.heap.size u3.heap.size va P0 := ⟨ha, Nat.le_refl _⟩
          go_wp2_with fail
          refine ⟨fun _ => hE, ?_⟩
          refine wpAny_oneM 3 63 (by kernel_rfl) (by kernel_rfl) (of_decide_eq_true (by kernel_rfl)) (by rfl) ?_
          simp only [List.getD_cons_succ, List.getD_cons_zero]
          go_wp2_with fail
          refine (cut6_any _ P0 _ hp0).mono ?_
          rw [HCC.out]
          rintro e u4 ⟨⟨vb, rfl, hb⟩, hh⟩
          have s4 := hh.size
          replace hp0 := hp0.next hh
          replace x10 := x10.next hh
          replace x9 := x9.next hh
          replace ha := ha.next hh
          replace hE := hE.trans (Ext.below hh (Nat.le_refl _))
          replace hV := hV.trans (hh.mono hV.size)
          clear hh
          have hb : Fix u4 u3.heap.size u4.heap.size vb P0 := ⟨hb, Nat.le_refl _⟩
          go_wp2_with fail
          refine ⟨fun _ => hE, ?_⟩
          obtain ⟨_, _, _, rfl, ⟨A3, a3, rfl, _⟩, ⟨A4, a4, rfl, _⟩, ⟨A5, a5, rfl, _⟩⟩ := id ha.1
          obtain ⟨_, _, _, rfl, ⟨B3, c3, rfl, _⟩, ⟨B4, c4, rfl, _⟩, ⟨B5, c5, rfl, _⟩⟩ := id hb.1
          obtain ⟨d0, d1, d2, d3, d4, d5⟩ := x9.six
          obtain ⟨f0, f1, f2, f3, f4, f5⟩ := x9.free
          refine wpAny_go 10 63 [6] 127 1 (by kernel_rfl) (by kernel_rfl) (fun _ _ _ _ _ h => h) (by kernel_rfl) (by rfl) (by rfl) (by kernel_rfl) ?_
          simp only [List.map_cons, List.map_nil, List.getD_cons_succ, List.getD_cons_zero]
          go_wp2_with fail
          change wpAnyM _ _ _ _ _ _ _ _ _ _
          clear d0 d1 d2 d3 d4 d5 f0 f1 f2 f3 f4 f5
          refine name_any fun uz hw => ?_
          have y10 : Box uz u0.heap.size #[.int .i64 0, .int .i64 0, .int .i64 0, .slice none 0 0, .slice none 0 0, .slice none 0 0] 26 := by rw [← hw]; exact x10.six_far (by omega)
          obtain ⟨d0, d1, d2, d3, d4, d5⟩ := y10.six
          obtain ⟨f0, f1, f2, f3, f4, f5⟩ := y10.free
          clear y10
          refine wpAny_go 10 127 [7] 255 0 (by kernel_rfl) (by kernel_rfl) (fun _ _ _ _ _ h => h) (by kernel_rfl) (by rfl) (by rfl) (by kernel_rfl) ?_
          simp only [List.map_cons, List.map_nil, List.getD_cons_succ, List.getD_cons_zero]
          go_wp2_with fail
          change wpAnyM _ _ _ _ _ _ _ _ _ _
          clear d0 d1 d2 d3 d4 d5 f0 f1 f2 f3 f4 f5
          subst hw
          refine wpAny_endM (by kernel_rfl) (by kernel_rfl) ?_
          go_wp2_with fail
          go_meet
          have z1 := ha.2; have z2 := hb.2
          exact Sides.of x9 x10 ha hb (by omega) (by omega) (by omega) (by omega) (by omega) (by omega) (by omega) (by omega) (by omega) hV
    case rest =>
      obtain ⟨b9, b10, lo9, hi9, lo10, hi10, A3, A4, A5, B3, B4, B5, a3, a4, a5, c3, c4, c5, rfl, rfl, x9, x10, p9, p10, h1, h2, h3, h4, h5, hb⟩ := hcut
      obtain ⟨W2, rfl⟩ : ∃ x : World, x = wc := ⟨_, rfl⟩
      have d0 : w.heap.size < W1.heap.size := bx0.lt
      have hp0 := hp0.below hb (Nat.le_refl _)
      have bx0 := bx0.next hb
      have hW1W2 := Lib.hid hb.size
      clear bx1 hp1
      obtain ⟨_, _, _, he, ⟨_, _, e3, l3, m3, q3⟩, ⟨_, _, e4, l4, m4, q4⟩, ⟨_, _, e5, l5, m5, q5⟩⟩ := p9
      subst e3 e4 e5
      cases he
      have g3 : P0.sent.length ≤ 9223372036854775807 := by unfold maxLen at m3; omega
      have g4 : P0.inn.length ≤ 9223372036854775807 := by unfold maxLen at m4; omega
      have g5 : P0.out.length ≤ 9223372036854775807 := by unfold maxLen at m5; omega
      have HX9 := Lib.hid x9; have HX10 := Lib.hid x10; have HBX := Lib.hid bx0; have HP9 := Lib.hid p10; have HPP := Lib.hid hp0; have HB0 := Lib.hid (hB.trans (hb.mono hB.size)); have Q3 := Lib.hid q3; have Q4 := Lib.hid q4; have Q5 := Lib.hid q5; have H1 := Lib.hid h1; have H2 := Lib.hid h2; have H3 := Lib.hid h3; have H4 := Lib.hid h4; have H5 := Lib.hid h5; have D0 := Lib.hid d0
      clear x9 x10 bx0 p10 hp0 hB hb q3 q4 q5 h1 h2 h3 h4 h5 d0 l3 m3 l4 m4 l5 m5
      go_wp2_with fail
      go_loopg [11] P0.sent.length (fun m i wr => ∃ j : Nat, i = .int .i64 (j : Int) ∧ j ≤ P0.sent.length ∧ m = P0.sent.length - j ∧ Scr lo9 hi9 W2 wr)
      case atStart => exact ⟨0, rfl, by omega, by omega, Scr.refl _ _ _⟩
      case round =>
        obtain ⟨j, rfl, hj, hm, hs⟩ := hrel
        have HM := Lib.hid hm; clear hm
        obtain ⟨k0, k1, k2, k3, k4, k5⟩ := (hs.box HX9.out H4.out).six
        by_cases hlt : j < P0.sent.length
        · obtain ⟨g, o, y, rfl, i1, i2, i3, i4⟩ := hs.int_at Q3.out hlt
          have HS := Lib.hid hs; clear hs
          go_wp2_with fail
          go_roundg (P0.sent.length - (j + 1))
          case rel => exact ⟨j + 1, by simp, by omega, rfl, HS.out.set_ i3 i1 i2 _⟩
          case measure => have := HM.out; omega
        · obtain rfl : j = P0.sent.length := by omega
          clear HM hj hlt
          go_wp2_with fail
          clear k0 k1 k2 k3 k4 k5
          obtain ⟨W3, rfl⟩ : ∃ x : World, x = wr := ⟨_, rfl⟩
          go_loopg [12, 13] P0.inn.length (fun m i _ wr => ∃ j : Nat, i = .int .i64 (j : Int) ∧ j ≤ P0.inn.length ∧ m = P0.inn.length - j ∧ Scr lo9 hi9 W2 wr)
          case atStart => exact ⟨0, rfl, by omega, by omega, hs⟩
          case round =>
            clear hs
            obtain ⟨j, rfl, hj, hm, hs⟩ := hrel
            have HM := Lib.hid hm; clear hm
            by_cases hlt : j < P0.inn.length
            · obtain ⟨k0, k1, k2, k3, k4, k5⟩ := (hs.box HX9.out H4.out).six
              have HS0 := Lib.hid hs; clear hs
              go_wp2_with fail
              clear k0 k1 k2 k3 k4 k5
              go_loopg [13] P0.inn[j].length (fun m i ws => ∃ l : Nat, i = .int .i64 (l : Int) ∧ l ≤ P0.inn[j].length ∧ m = P0.inn[j].length - l ∧ Scr lo9 hi9 W2 ws)
              case atStart => exact ⟨0, rfl, by omega, by omega, HS0.out⟩
              case round =>
                obtain ⟨l, rfl, hl, hm, hs⟩ := hrel
                have HM2 := Lib.hid hm; clear hm
                obtain ⟨k0, k1, k2, k3, k4, k5⟩ := (hs.box HX9.out H4.out).six
                obtain ⟨g, o, A, c, rfl, r1, r2, r3, r4⟩ := hs.row_at Q4.out hlt
                have r5 : c ≤ 9223372036854775807 := by unfold maxLen at r3; omega
                clear r3
                obtain ⟨xr, hxr⟩ : ∃ x, P0.inn[j] = x := ⟨_, rfl⟩
                simp only [hxr] at hl r1 r2 r4 HM2 ⊢
                have HXR := Lib.hid hxr; clear hxr
                by_cases hlt2 : l < xr.length
                · obtain ⟨g2, o2, y, z, rfl, i1, i2, i3, i4, i5, i6⟩ := hs.msg_at r4 hlt2
                  clear r4
                  have HS := Lib.hid hs; clear hs
                  go_wp2_with fail
                  go_roundg (xr.length - (l + 1))
                  case rel => exact ⟨l + 1, by simp, by first | omega | (rw [HXR.out]; omega), by first | rfl | rw [HXR.out], (HS.out.set_ i3 i1 i2 _).set_ ((setCell_ne (by omega)).trans i4) i1 i2 _⟩
                  case measure => have := HM2.out; omega
                · obtain rfl : l = xr.length := by omega
                  clear HM2 hl hlt2 r4
                  have HS := Lib.hid hs; clear hs
                  go_wp2_with fail
                  go_roundg (P0.inn.length - (j + 1))
                  case rel => exact ⟨j + 1, by simp, by omega, rfl, HS.out⟩
                  case measure => have := HM.out; omega
            · obtain rfl : j = P0.inn.length := by omega
              obtain ⟨k0, k1, k2, k3, k4, k5⟩ := (hs.box HX9.out H4.out).six
              clear HM hj hlt
              go_wp2_with fail
              clear k0 k1 k2 k3 k4 k5
              obtain ⟨W4, rfl⟩ : ∃ x : World, x = wr := ⟨_, rfl⟩
              go_loopg [14, 15] P0.out.length (fun m i _ wr => ∃ j : Nat, i = .int .i64 (j : Int) ∧ j ≤ P0.out.length ∧ m = P0.out.length - j ∧ Scr lo9 hi9 W2 wr)
              case atStart => exact ⟨0, rfl, by omega, by omega, hs⟩
              case round =>
                clear hs
                obtain ⟨j, rfl, hj, hm, hs⟩ := hrel
                have HM := Lib.hid hm; clear hm
                by_cases hlt : j < P0.out.length
                · obtain ⟨k0, k1, k2, k3, k4, k5⟩ := (hs.box HX9.out H4.out).six
                  have HS0 := Lib.hid hs; clear hs
                  go_wp2_with fail
                  clear k0 k1 k2 k3 k4 k5
                  go_loopg [15] P0.out[j].length (fun m i ws => ∃ l : Nat, i = .int .i64 (l : Int) ∧ l ≤ P0.out[j].length ∧ m = P0.out[j].length - l ∧ Scr lo9 hi9 W2 ws)
                  case atStart => exact ⟨0, rfl, by omega, by omega, HS0.out⟩
                  case round =>
                    obtain ⟨l, rfl, hl, hm, hs⟩ := hrel
                    have HM2 := Lib.hid hm; clear hm
                    obtain ⟨k0, k1, k2, k3, k4, k5⟩ := (hs.box HX9.out H4.out).six
                    obtain ⟨g, o, A, c, rfl, r1, r2, r3, r4⟩ := hs.row_at Q5.out hlt
                    have r5 : c ≤ 9223372036854775807 := by unfold maxLen at r3; omega
                    clear r3
                    obtain ⟨xr, hxr⟩ : ∃ x, P0.out[j] = x := ⟨_, rfl⟩
                    simp only [hxr] at hl r1 r2 r4 HM2 ⊢
                    have HXR := Lib.hid hxr; clear hxr
                    by_cases hlt2 : l < xr.length
                    · obtain ⟨g2, o2, y, rfl, i1, i2, i3, i4⟩ := hs.int_at r4 hlt2
                      clear r4
                      have HS := Lib.hid hs; clear hs
                      go_wp2_with fail
                      go_roundg (xr.length - (l + 1))
                      case rel => exact ⟨l + 1, by simp, by first | omega | (rw [HXR.out]; omega), by first | rfl | rw [HXR.out], HS.out.set_ i3 i1 i2 _⟩
                      case measure => have := HM2.out; omega
                    · obtain rfl : l = xr.length := by omega
                      clear HM2 hl hlt2 r4
                      have HS := Lib.hid hs; clear hs
                      go_wp2_with fail
                      go_roundg (P0.out.length - (j + 1))
                      case rel => exact ⟨j + 1, by simp, by omega, rfl, HS.out⟩
                      case measure => have := HM.out; omega
                · obtain rfl : j = P0.out.length := by omega
                  obtain ⟨k0, k1, k2, k3, k4, k5⟩ := (hs.box HX9.out H4.out).six
                  clear HM hj hlt
                  go_wp2_with fail
                  clear k0 k1 k2 k3 k4 k5
                  obtain ⟨W5, rfl⟩ : ∃ x : World, x = wr := ⟨_, rfl⟩
                  obtain ⟨w5, rfl⟩ : ∃ x : World, x = W5 := ⟨_, rfl⟩
                  have hsz := hs.size
                  have bx0 := hs.box HBX.out (.inl (by have := D0.out; have := H1.out; omega))
                  have bx1 := hs.box HX10.out H5.out
                  have hp0 := (hs.piece HPP.out (.inl H1.out)).widen (Nat.zero_le _) (hi' := w5.heap.size) (by rw [hsz]; exact hW1W2.out)
                  have hp1 := ((hs.piece HP9.out (.inr H2.out)).widen (lo' := 0) (Nat.zero_le _) (hi' := w5.heap.size) (by rw [hsz]; exact H3.out)).soft
                  have hB := HB0.out.trans (hs.low.mono (by have := D0.out; have := H1.out; omega))
                  clear hs hsz
                  replace bx0 := bx0.next ((Below.refl _ _).drew)
                  replace bx1 := bx1.next ((Below.refl _ _).drew)
                  replace hp0 := hp0.next ((Below.refl _ _).drew)
                  replace hp1 := hp1.next ((Below.refl _ _).drew)
                  replace hB := hB.drew
                  have hE := Ext.refl (w5.drew)
                  refine region_go 90 (by kernel_rfl) ?_
                  obtain ⟨c0, c1, c2, c3, c4, c5⟩ := bx0.six
                  refine wpAny_go 90 0 [0] 1 8 (by kernel_rfl) (by kernel_rfl) (fun _ _ _ _ _ h => h) (by kernel_rfl) (by rfl) (by rfl) (by kernel_rfl) ?_
                  simp only [List.map_cons, List.map_nil, List.getD_cons_zero]
                  go_wp2_with fail
                  change wpAnyM _ _ _ _ _ _ _ _ _ _
                  clear c0 c1 c2 c3 c4 c5
                  obtain ⟨c0, c1, c2, c3, c4, c5⟩ := bx1.six
                  refine wpAny_reads 90 1 [2] 5 7 (by kernel_rfl) (by kernel_rfl) (fun _ _ _ _ _ h => h) (by kernel_rfl) (by rfl) (by rfl) (by kernel_rfl) ?_
                  simp only [List.map_cons, List.map_nil, List.getD_cons_succ, List.getD_cons_zero]
                  go_wp2_with fail
                  change _ → wpAnyM _ _ _ _ _ _ _ _ _ _; intro _
                  clear c0 c1 c2 c3 c4 c5
                  refine wpAny_oneM 1 7 (by kernel_rfl) (by kernel_rfl) (of_decide_eq_true (by kernel_rfl)) (by rfl) ?_
                  simp only [List.getD_cons_succ, List.getD_cons_zero]
                  go_wp2_with fail
                  refine (ref_any _ P0 _ hp0).mono ?_
                  rintro e w6 ⟨rfl, hb⟩
                  replace bx0 := bx0.next hb
                  replace bx1 := bx1.next hb
                  replace hp0 := hp0.next hb
                  replace hp1 := hp1.next hb
                  replace hE := hE.trans (Ext.below hb (Nat.le_refl _))
                  replace hB := hB.trans (hb.mono hB.size)
                  clear hb
                  go_wp2_with fail
                  refine ⟨fun _ => hE, ?_⟩
                  refine wpAny_oneM 3 15 (by kernel_rfl) (by kernel_rfl) (of_decide_eq_true (by kernel_rfl)) (by rfl) ?_
                  simp only [List.getD_cons_succ, List.getD_cons_zero]
                  go_wp2_with fail
                  refine (ref_any _ P0 _ hp1).mono ?_
                  rintro e w7 ⟨rfl, hb⟩
                  replace bx0 := bx0.next hb
                  replace bx1 := bx1.next hb
                  replace hp0 := hp0.next hb
                  replace hp1 := hp1.next hb
                  replace hE := hE.trans (Ext.below hb (Nat.le_refl _))
                  replace hB := hB.trans (hb.mono hB.size)
                  clear hb
                  go_wp2_with fail
                  refine ⟨fun _ => hE, ?_⟩
                  refine wpAny_oneM 4 31 (by kernel_rfl) (by kernel_rfl) (of_decide_eq_true (by kernel_rfl)) (by rfl) ?_
                  simp only [List.getD_cons_succ, List.getD_cons_zero]
                  go_wp2_with fail
                  refine (rsame_any _ _ P0 P0 _ hp0 hp1).mono ?_
                  rintro e w8 ⟨rfl, hb⟩
                  replace bx0 := bx0.next hb
                  replace bx1 := bx1.next hb
                  replace hp0 := hp0.next hb
                  replace hp1 := hp1.next hb
                  replace hE := hE.trans (Ext.below hb (Nat.le_refl _))
                  replace hB := hB.trans (hb.mono hB.size)
                  clear hb
                  rw [decide_eq_true (rfl : P0 = P0)]
                  go_wp2_with fail
                  refine ⟨fun _ => hE, ?_⟩
                  refine wpAny_go 90 31 [5] 63 3 (by kernel_rfl) (by kernel_rfl) (fun _ _ _ _ _ h => h) (by kernel_rfl) (by rfl) (by rfl) (by kernel_rfl) ?_
                  simp only [List.map_cons, List.map_nil, List.getD_cons_succ, List.getD_cons_zero]
                  go_wp2_with fail
                  change wpAnyM _ _ _ _ _ _ _ _ _ _
                  refine wpAny_oneM 6 127 (by kernel_rfl) (by kernel_rfl) (of_decide_eq_true (by kernel_rfl)) (by rfl) ?_
                  simp only [List.getD_cons_succ, List.getD_cons_zero]
                  go_wp2_with fail
                  refine (fixed6_any _).mono ?_
                  rintro e w9 ⟨rfl, hb⟩
                  replace bx0 := bx0.next hb
                  replace bx1 := bx1.next hb
                  replace hp0 := hp0.next hb
                  replace hp1 := hp1.next hb
                  replace hE := hE.trans (Ext.below hb (Nat.le_refl _))
                  replace hB := hB.trans (hb.mono hB.size)
                  clear hb
                  go_wp2_with fail
                  refine ⟨fun _ => hE, ?_⟩
                  refine wpAny_go 90 127 [7, 8] 511 0 (by kernel_rfl) (by kernel_rfl) (fun _ _ _ _ _ h => h) (by kernel_rfl) (by rfl) (by rfl) (by kernel_rfl) ?_
                  simp only [List.map_cons, List.map_nil, List.getD_cons_succ, List.getD_cons_zero]
                  go_wp2_with fail
                  change wpAnyM _ _ _ _ _ _ _ _ _ _
                  refine wpAny_endM (by kernel_rfl) (by kernel_rfl) ?_
                  go_wp2_with fail
                  go_ret
                  exact ⟨rfl, hB⟩

end Go.Proofs.Ytdfgnmdofjhnkaa.pieceSides
