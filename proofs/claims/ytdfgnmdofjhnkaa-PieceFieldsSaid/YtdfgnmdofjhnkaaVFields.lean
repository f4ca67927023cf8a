/- PieceFields: the walk. -/
import Derived.Test.YtdfgnmdofjhnkaaPV
namespace Go.Proofs.Ytdfgnmdofjhnkaa.pieceFields
open Go.RowKit Go.Proofs.Ytdfgnmdofjhnkaa

set_option maxRecDepth 100000 in
set_option maxHeartbeats 8000000 in
theorem walk_y (v0 : Value) (p0 : Pc.Piece) (w : World) (h0 : PieceIs false w 0 w.heap.size v0 p0) (hr : Pc.right (Pc.cut p0) = true) :
    Calls Try.prog 6 #[v0] w fun x w' => x = .returned (.bool true) ∧ Below w.heap.size w w' := by
  have HR := Lib.hid hr; clear hr
  obtain ⟨n0, s0, t0, xs0, ms0, os0⟩ := p0
  obtain ⟨_, _, _, rfl, ⟨A0, k0, rfl, _⟩, ⟨B0, l0, rfl, _⟩, ⟨C0, m0, rfl, _⟩⟩ := id h0
  dsimp only at *
  obtain ⟨P0, hP0⟩ : ∃ P, P = Pc.cut ⟨n0, s0, t0, xs0, ms0, os0⟩ := ⟨_, rfl⟩
  have hsz0 : Pc.sized P0 := hP0 ▸ Pc.cut_sized _
  have HP0 := Lib.hid hP0; clear hP0
  go_enter Try.func6, Try.ntmps6
  try simp only [List.append_eq, List.cons_append, List.nil_append]
  go_wp2_with fail
  refine name_call fun W0 hW0 => ?_
  have bx0 : Box W0 (w.heap.size) #[.int .i64 n0, .int .i64 s0, .int .i64 t0, .slice A0 xs0.length k0, .slice B0 ms0.length l0, .slice C0 os0.length m0] 26 := hW0 ▸ (Box.new' #[.int .i64 n0, .int .i64 s0, .int .i64 t0, .slice A0 xs0.length k0, .slice B0 ms0.length l0, .slice C0 os0.length m0] 26 (by simp))
  have hB : Below w.heap.size w W0 := hW0 ▸ ((Below.refl _ _).alloc (by first | (simp; done) | (simp; omega)) _)
  have hlo : w.heap.size + 1 ≤ W0.heap.size := hW0 ▸ (by simp)
  clear hW0
  refine (cut6_any _ ⟨n0, s0, t0, xs0, ms0, os0⟩ _ ((h0.below hB (Nat.le_refl _)).widen (Nat.le_refl _) hB.size)).mono ?_
  rw [← HP0.out]
  rintro e v0 ⟨⟨x0, rfl, hp0⟩, hb⟩
  replace bx0 := bx0.next hb
  obtain ⟨_, _, _, rfl, ⟨P03, P0k3, rfl, _⟩, ⟨P04, P0k4, rfl, _⟩, ⟨P05, P0k5, rfl, _⟩⟩ := id hp0
  replace hp0 := hp0.widen (lo' := w.heap.size + 1) hlo (Nat.le_refl _)
  replace hB := hB.trans (hb.mono hB.size)
  replace hlo := Nat.le_trans hlo hb.size
  clear hb
  obtain ⟨c0, c1, c2, c3, c4, c5⟩ := bx0.six
  obtain ⟨f0, f1, f2, f3, f4, f5⟩ := bx0.free
  go_wp2_with fail
  clear c0 c1 c2 c3 c4 c5
  clear f0 f1 f2 f3 f4 f5
  refine name_call fun W hW => ?_
  have qx0 : Box W (w.heap.size) #[.int .i64 P0.node, .int .i64 P0.state, .int .i64 P0.steps, .slice P03 P0.sent.length P0k3, .slice P04 P0.inn.length P0k4, .slice P05 P0.out.length P0k5] 26 := by rw [← hW]; exact six_box bx0
  have qp0 : PieceIs true W (w.heap.size + 1) W.heap.size (.agg #[.int .i64 P0.node, .int .i64 P0.state, .int .i64 P0.steps, .slice P03 P0.sent.length P0k3, .slice P04 P0.inn.length P0k4, .slice P05 P0.out.length P0k5]) P0 := by rw [← hW]; exact hp0.six_far (by omega)
  have qB : Below w.heap.size w W := by rw [← hW]; exact six_below' hB (by omega)
  have qlo : w.heap.size + 1 ≤ W.heap.size := by rw [← hW]; exact Nat.le_trans hlo (Nat.le_of_eq six_size.symm)
  clear bx0 hp0 hB hlo hW
  have bx0 := qx0
  clear qx0
  have hp0 := qp0
  clear qp0
  have hB := qB
  have hlo := qlo
  clear qB qlo
  obtain ⟨W0, rfl⟩ : ∃ x : World, x = W := ⟨_, rfl⟩
  replace hp0 := hp0.zero_
  have hR := HP0.out ▸ HR.out
  have HE1 := Lib.hid (show Pc.err P0 = 0 by simp [Pc.err, hR])
  obtain ⟨X, hX⟩ : ∃ X, ByteArray.mk (Pc.enc P0).toArray = X := ⟨_, rfl⟩
  have HXL := Lib.hid (show X.data.toList = W.puts (Pc.nums P0) by rw [← hX]; simp [Pc.enc, hR])
  have HX := Lib.hid hX
  clear hX
  have HXS := Lib.hid (show X.size ≤ 1000000 by have := enc_len P0; have e : X.size = (Pc.enc P0).length := (by rw [← HX.out]; rfl); omega)
  obtain ⟨L, hL⟩ : ∃ L, Pc.nums P0 = L := ⟨_, rfl⟩
  have h6 : (6 : Int) ≤ (L.length : Int) := by have := Pc.nums_pos P0; rw [hL] at this; omega
  have h60 : 0 < L.length := by omega
  have HLS := Lib.hid (show ∃ t, ints L = .int .i64 P0.node :: .int .i64 P0.state :: .int .i64 P0.steps :: .int .i64 (P0.sent.length : Int) :: t from ⟨_, by rw [← hL]; rfl⟩)
  have HZ := Lib.hid (show Pc.zs ((Pc.nums P0).map W.cl) = L from (Pc.zs_cl (Pc.right_nums hR)).trans hL)
  have HL := Lib.hid hL
  have HR1 := Lib.hid hR
  clear hR hL
  refine (encodeq hp0 HX.out HE1.out).mono ?_
  rintro e w1 ⟨rfl, hb⟩
  replace bx0 := bx0.next hb
  replace hp0 := hp0.next hb
  replace hB := hB.trans (hb.mono hB.size)
  clear hb
  go_wp2_with fail
  refine (rallq _ HXS.out (by rw [HXL.out]; exact Pc.all_nums) HZ.out).mono ?_
  rintro e w2 ⟨⟨A, c, rfl, hs⟩, hb⟩
  replace bx0 := bx0.next hb
  replace hp0 := hp0.next hb
  replace hB := hB.trans (hb.mono hB.size)
  clear hb
  obtain ⟨g, o, rfl, hcs⟩ := hs.int_cells h60
  obtain ⟨tl, htl⟩ := HLS.out
  rw [htl] at hcs
  clear htl
  go_wp2_with fail
  replace bx0 := bx0.next ((Below.refl _ _).drew)
  replace hp0 := hp0.next ((Below.refl _ _).drew)
  replace hs := hs.next ((Below.refl _ _).drew)
  replace hcs := hcs.next ((Below.refl _ _).drew)
  replace hB := hB.drew
  have hE := Ext.refl (w2.drew)
  refine region_go 281474976710880 (by kernel_rfl) ?_
  obtain ⟨c0, c1, c2, c3, c4, c5⟩ := bx0.six
  obtain ⟨q0, q1, q2, q3⟩ := hcs.four
  refine wpAny_go 281474976710880 0 [0, 1, 2, 4] 23 47 (by kernel_rfl) (by kernel_rfl) (fun _ _ _ _ _ h => h) (by kernel_rfl) (by rfl) (by rfl) (by kernel_rfl) ?_
  simp only [List.map_cons, List.map_nil, List.getD_cons_succ, List.getD_cons_zero]
  go_wp2_with fail
  change wpAnyM _ _ _ _ _ _ _ _ _ _
  clear c0 c1 c2 c3 c4 c5
  clear q0 q1 q2 q3
  refine wpAny_reads 281474976710880 23 [3] 31 46 (by kernel_rfl) (by kernel_rfl) (fun _ _ _ _ _ h => h) (by kernel_rfl) (by rfl) (by rfl) (by kernel_rfl) ?_
  simp only [List.map_cons, List.map_nil, List.getD_cons_succ, List.getD_cons_zero]
  go_wp2_with fail
  change _ → wpAnyM _ _ _ _ _ _ _ _ _ _; intro _
  refine wpAny_oneM 5 63 (by kernel_rfl) (by kernel_rfl) (of_decide_eq_true (by kernel_rfl)) (by rfl) ?_
  simp only [List.getD_cons_succ, List.getD_cons_zero]
  go_wp2_with fail
  refine (ref_any _ P0 _ hp0).mono ?_
  rintro e w3 ⟨rfl, hb⟩
  replace bx0 := bx0.next hb
  replace hp0 := hp0.next hb
  replace hs := hs.next hb
  replace hcs := hcs.next hb
  replace hE := hE.trans (Ext.below hb (Nat.le_refl _))
  replace hB := hB.trans (hb.mono hB.size)
  clear hb
  go_wp2_with fail
  refine ⟨fun _ => hE, ?_⟩
  refine wpAny_oneM 6 127 (by kernel_rfl) (by kernel_rfl) (of_decide_eq_true (by kernel_rfl)) (by rfl) ?_
  simp only [List.getD_cons_succ, List.getD_cons_zero]
  go_wp2_with fail
  refine (numbersq hp0 HR1.out HL.out).mono ?_
  rintro e w4 ⟨⟨A2, c2, rfl, hn⟩, hb⟩
  replace bx0 := bx0.next hb
  replace hp0 := hp0.next hb
  replace hs := hs.next hb
  replace hcs := hcs.next hb
  replace hE := hE.trans (Ext.below hb (Nat.le_refl _))
  replace hB := hB.trans (hb.mono hB.size)
  clear hb
  go_wp2_with fail
  refine ⟨fun _ => hE, ?_⟩
  refine wpAny_oneM 7 255 (by kernel_rfl) (by kernel_rfl) (of_decide_eq_true (by kernel_rfl)) (by rfl) ?_
  simp only [List.getD_cons_succ, List.getD_cons_zero]
  go_wp2_with fail
  refine (rintsq hs.zero_ hn.zero_ rfl).mono ?_
  rintro e w5 ⟨rfl, hb⟩
  replace bx0 := bx0.next hb
  replace hp0 := hp0.next hb
  replace hs := hs.next hb
  replace hcs := hcs.next hb
  replace hn := hn.next hb
  replace hE := hE.trans (Ext.below hb (Nat.le_refl _))
  replace hB := hB.trans (hb.mono hB.size)
  clear hb
  go_wp2_with fail
  refine ⟨fun _ => hE, ?_⟩
  obtain ⟨c0, c1, c2, c3, c4, c5⟩ := bx0.six
  obtain ⟨q0, q1, q2, q3⟩ := hcs.four
  refine wpAny_go 281474976710880 255 [8, 9, 10, 11, 12, 13, 14, 15, 16, 17, 18, 19, 20, 21, 22, 23, 24, 25, 26, 27, 28, 29, 30, 31, 32, 33, 34, 35, 36, 37, 38, 39, 40, 41, 42, 43, 44, 45, 46, 47] 281474976710655 3 (by kernel_rfl) (by kernel_rfl) (fun _ _ _ _ _ h => h) (by kernel_rfl) (by rfl) (by rfl) (by kernel_rfl) ?_
  simp only [List.map_cons, List.map_nil, List.getD_cons_succ, List.getD_cons_zero]
  go_wp2_with fail
  change wpAnyM _ _ _ _ _ _ _ _ _ _
  clear c0 c1 c2 c3 c4 c5
  clear q0 q1 q2 q3
  refine wpAny_oneM 48 562949953421311 (by kernel_rfl) (by kernel_rfl) (of_decide_eq_true (by kernel_rfl)) (by rfl) ?_
  simp only [List.getD_cons_succ, List.getD_cons_zero]
  go_wp2_with fail
  refine (fixed6_any _).mono ?_
  rintro e w6 ⟨rfl, hb⟩
  replace bx0 := bx0.next hb
  replace hp0 := hp0.next hb
  replace hs := hs.next hb
  replace hcs := hcs.next hb
  replace hn := hn.next hb
  replace hE := hE.trans (Ext.below hb (Nat.le_refl _))
  replace hB := hB.trans (hb.mono hB.size)
  clear hb
  go_wp2_with fail
  refine ⟨fun _ => hE, ?_⟩
  refine wpAny_go 281474976710880 562949953421311 [49, 50] 2251799813685247 0 (by kernel_rfl) (by kernel_rfl) (fun _ _ _ _ _ h => h) (by kernel_rfl) (by rfl) (by rfl) (by kernel_rfl) ?_
  simp only [List.map_cons, List.map_nil, List.getD_cons_succ, List.getD_cons_zero]
  go_wp2_with fail
  change wpAnyM _ _ _ _ _ _ _ _ _ _
  refine wpAny_endM (by kernel_rfl) (by kernel_rfl) ?_
  go_wp2_with fail
  go_ret
  exact ⟨rfl, hB⟩

set_option maxRecDepth 100000 in
set_option maxHeartbeats 8000000 in
theorem walk_n (v0 : Value) (p0 : Pc.Piece) (w : World) (h0 : PieceIs false w 0 w.heap.size v0 p0) (hr : Pc.right (Pc.cut p0) = false) :
    Calls Try.prog 6 #[v0] w fun x w' => x = .returned (.bool true) ∧ Below w.heap.size w w' := by
  have HR := Lib.hid hr; clear hr
  obtain ⟨n0, s0, t0, xs0, ms0, os0⟩ := p0
  obtain ⟨_, _, _, rfl, ⟨A0, k0, rfl, _⟩, ⟨B0, l0, rfl, _⟩, ⟨C0, m0, rfl, _⟩⟩ := id h0
  dsimp only at *
  obtain ⟨P0, hP0⟩ : ∃ P, P = Pc.cut ⟨n0, s0, t0, xs0, ms0, os0⟩ := ⟨_, rfl⟩
  have hsz0 : Pc.sized P0 := hP0 ▸ Pc.cut_sized _
  have HP0 := Lib.hid hP0; clear hP0
  go_enter Try.func6, Try.ntmps6
  try simp only [List.append_eq, List.cons_append, List.nil_append]
  go_wp2_with fail
  refine name_call fun W0 hW0 => ?_
  have bx0 : Box W0 (w.heap.size) #[.int .i64 n0, .int .i64 s0, .int .i64 t0, .slice A0 xs0.length k0, .slice B0 ms0.length l0, .slice C0 os0.length m0] 26 := hW0 ▸ (Box.new' #[.int .i64 n0, .int .i64 s0, .int .i64 t0, .slice A0 xs0.length k0, .slice B0 ms0.length l0, .slice C0 os0.length m0] 26 (by simp))
  have hB : Below w.heap.size w W0 := hW0 ▸ ((Below.refl _ _).alloc (by first | (simp; done) | (simp; omega)) _)
  have hlo : w.heap.size + 1 ≤ W0.heap.size := hW0 ▸ (by simp)
  clear hW0
  refine (cut6_any _ ⟨n0, s0, t0, xs0, ms0, os0⟩ _ ((h0.below hB (Nat.le_refl _)).widen (Nat.le_refl _) hB.size)).mono ?_
  rw [← HP0.out]
  rintro e v0 ⟨⟨x0, rfl, hp0⟩, hb⟩
  replace bx0 := bx0.next hb
  obtain ⟨_, _, _, rfl, ⟨P03, P0k3, rfl, _⟩, ⟨P04, P0k4, rfl, _⟩, ⟨P05, P0k5, rfl, _⟩⟩ := id hp0
  replace hp0 := hp0.widen (lo' := w.heap.size + 1) hlo (Nat.le_refl _)
  replace hB := hB.trans (hb.mono hB.size)
  replace hlo := Nat.le_trans hlo hb.size
  clear hb
  obtain ⟨c0, c1, c2, c3, c4, c5⟩ := bx0.six
  obtain ⟨f0, f1, f2, f3, f4, f5⟩ := bx0.free
  go_wp2_with fail
  clear c0 c1 c2 c3 c4 c5
  clear f0 f1 f2 f3 f4 f5
  refine name_call fun W hW => ?_
  have qx0 : Box W (w.heap.size) #[.int .i64 P0.node, .int .i64 P0.state, .int .i64 P0.steps, .slice P03 P0.sent.length P0k3, .slice P04 P0.inn.length P0k4, .slice P05 P0.out.length P0k5] 26 := by rw [← hW]; exact six_box bx0
  have qp0 : PieceIs true W (w.heap.size + 1) W.heap.size (.agg #[.int .i64 P0.node, .int .i64 P0.state, .int .i64 P0.steps, .slice P03 P0.sent.length P0k3, .slice P04 P0.inn.length P0k4, .slice P05 P0.out.length P0k5]) P0 := by rw [← hW]; exact hp0.six_far (by omega)
  have qB : Below w.heap.size w W := by rw [← hW]; exact six_below' hB (by omega)
  have qlo : w.heap.size + 1 ≤ W.heap.size := by rw [← hW]; exact Nat.le_trans hlo (Nat.le_of_eq six_size.symm)
  clear bx0 hp0 hB hlo hW
  have bx0 := qx0
  clear qx0
  have hp0 := qp0
  clear qp0
  have hB := qB
  have hlo := qlo
  clear qB qlo
  obtain ⟨W0, rfl⟩ : ∃ x : World, x = W := ⟨_, rfl⟩
  replace hp0 := hp0.zero_
  have hR := HP0.out ▸ HR.out
  have HE1 := Lib.hid (show Pc.err P0 = 4 by simp [Pc.err, hR])
  have HE2 := Lib.hid (show Pc.enc P0 = [] by simp [Pc.enc, hR])
  have HR1 := Lib.hid hR
  clear hR
  refine (encodeq (S := ⟨#[]⟩) hp0 (by rw [HE2.out]) HE1.out).mono ?_
  rintro e w1 ⟨rfl, hb⟩
  replace bx0 := bx0.next hb
  replace hp0 := hp0.next hb
  replace hB := hB.trans (hb.mono hB.size)
  clear hb
  obtain ⟨c0, c1, c2, c3, c4, c5⟩ := bx0.six
  go_wp2_with fail
  clear c0 c1 c2 c3 c4 c5
  refine (rightq hp0 HR1.out).mono ?_
  rintro e w2 ⟨rfl, hb⟩
  replace bx0 := bx0.next hb
  replace hp0 := hp0.next hb
  replace hB := hB.trans (hb.mono hB.size)
  clear hb
  go_wp2_with fail
  refine (fixed6_any _).mono ?_
  rintro e w3 ⟨rfl, hb⟩
  replace bx0 := bx0.next hb
  replace hp0 := hp0.next hb
  replace hB := hB.trans (hb.mono hB.size)
  clear hb
  go_wp2_with fail
  go_ret
  exact ⟨rfl, hB⟩

theorem walk (v0 : Value) (p0 : Pc.Piece) (w : World) (h0 : PieceIs false w 0 w.heap.size v0 p0) :
    Calls Try.prog 6 #[v0] w fun x w' => x = .returned (.bool true) ∧ Below w.heap.size w w' := by
  cases hr : Pc.right (Pc.cut p0)
  · exact walk_n v0 p0 w h0 hr
  · exact walk_y v0 p0 w h0 hr
end Go.Proofs.Ytdfgnmdofjhnkaa.pieceFields
