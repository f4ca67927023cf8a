/- PieceTells: the walk. -/
import Derived.Test.YtdfgnmdofjhnkaaPX
import Derived.Test.YtdfgnmdofjhnkaaPR
namespace Go.Proofs.Ytdfgnmdofjhnkaa.pieceTells
open Go.RowKit Go.Proofs.Ytdfgnmdofjhnkaa

set_option maxRecDepth 100000 in
set_option maxHeartbeats 8000000 in
theorem walk (v0 : Value) (p0 : Pc.Piece) (v1 : Value) (p1 : Pc.Piece) (a2 : ByteArray) (w : World) (h0 : PieceIs false w 0 w.heap.size v0 p0) (h1 : PieceIs false w 0 w.heap.size v1 p1) :
    Calls Try.prog 3 #[v0, v1, .string a2] w fun x w' => x = .returned (.bool true) ∧ Below w.heap.size w w' := by
  have hx := str_cut a2 300 (min (a2.size : Int) 300).toNat (by omega)
  obtain ⟨s, hse⟩ : ∃ s, a2.extract 0 (min (a2.size : Int) 300).toNat = s := ⟨_, rfl⟩
  rw [hse] at hx
  obtain ⟨n0, s0, t0, xs0, ms0, os0⟩ := p0
  obtain ⟨_, _, _, rfl, ⟨A0, k0, rfl, _⟩, ⟨B0, l0, rfl, _⟩, ⟨C0, m0, rfl, _⟩⟩ := id h0
  dsimp only at *
  obtain ⟨n1, s1, t1, xs1, ms1, os1⟩ := p1
  obtain ⟨_, _, _, rfl, ⟨A1, k1, rfl, _⟩, ⟨B1, l1, rfl, _⟩, ⟨C1, m1, rfl, _⟩⟩ := id h1
  dsimp only at *
  obtain ⟨P0, hP0⟩ : ∃ P, P = Pc.cut ⟨n0, s0, t0, xs0, ms0, os0⟩ := ⟨_, rfl⟩
  have hsz0 : Pc.sized P0 := hP0 ▸ Pc.cut_sized _
  have HP0 := Lib.hid hP0; clear hP0
  obtain ⟨P1, hP1⟩ : ∃ P, P = Pc.cut ⟨n1, s1, t1, xs1, ms1, os1⟩ := ⟨_, rfl⟩
  have hsz1 : Pc.sized P1 := hP1 ▸ Pc.cut_sized _
  have HP1 := Lib.hid hP1; clear hP1
  go_enter Try.func3, Try.ntmps3
  try simp only [List.append_eq, List.cons_append, List.nil_append]
  go_wp2_with fail
  refine name_call fun W0 hW0 => ?_
  have bx0 : Box W0 (w.heap.size) #[.int .i64 n0, .int .i64 s0, .int .i64 t0, .slice A0 xs0.length k0, .slice B0 ms0.length l0, .slice C0 os0.length m0] 26 := hW0 ▸ ((Box.new' #[.int .i64 n0, .int .i64 s0, .int .i64 t0, .slice A0 xs0.length k0, .slice B0 ms0.length l0, .slice C0 os0.length m0] 26 (by simp)).alloc _)
  have bx1 : Box W0 (w.heap.size + 1) #[.int .i64 n1, .int .i64 s1, .int .i64 t1, .slice A1 xs1.length k1, .slice B1 ms1.length l1, .slice C1 os1.length m1] 26 := hW0 ▸ (Box.new' #[.int .i64 n1, .int .i64 s1, .int .i64 t1, .slice A1 xs1.length k1, .slice B1 ms1.length l1, .slice C1 os1.length m1] 26 (by simp))
  have hB : Below w.heap.size w W0 := hW0 ▸ (((Below.refl _ _).alloc (by first | (simp; done) | (simp; omega)) _).alloc (by first | (simp; done) | (simp; omega)) _)
  have hlo : w.heap.size + 1 + 1 ≤ W0.heap.size := hW0 ▸ (by simp)
  clear hW0
  refine (cut6_any _ ⟨n0, s0, t0, xs0, ms0, os0⟩ _ ((h0.below hB (Nat.le_refl _)).widen (Nat.le_refl _) hB.size)).mono ?_
  rw [← HP0.out]
  rintro e v0 ⟨⟨x0, rfl, hp0⟩, hb⟩
  replace bx0 := bx0.next hb
  replace bx1 := bx1.next hb
  obtain ⟨_, _, _, rfl, ⟨P03, P0k3, rfl, _⟩, ⟨P04, P0k4, rfl, _⟩, ⟨P05, P0k5, rfl, _⟩⟩ := id hp0
  replace hp0 := hp0.widen (lo' := w.heap.size + 1 + 1) hlo (Nat.le_refl _)
  replace hB := hB.trans (hb.mono hB.size)
  replace hlo := Nat.le_trans hlo hb.size
  clear hb
  obtain ⟨c0, c1, c2, c3, c4, c5⟩ := bx0.six
  obtain ⟨f0, f1, f2, f3, f4, f5⟩ := bx0.free
  obtain ⟨d0, d1, d2, d3, d4, d5⟩ := bx1.six
  go_wp2_with fail
  clear c0 c1 c2 c3 c4 c5
  clear f0 f1 f2 f3 f4 f5
  clear d0 d1 d2 d3 d4 d5
  refine name_call fun W hW => ?_
  have qx0 : Box W (w.heap.size) #[.int .i64 P0.node, .int .i64 P0.state, .int .i64 P0.steps, .slice P03 P0.sent.length P0k3, .slice P04 P0.inn.length P0k4, .slice P05 P0.out.length P0k5] 26 := by rw [← hW]; exact six_box bx0
  have qx1 : Box W (w.heap.size + 1) #[.int .i64 n1, .int .i64 s1, .int .i64 t1, .slice A1 xs1.length k1, .slice B1 ms1.length l1, .slice C1 os1.length m1] 26 := by rw [← hW]; exact bx1.six_far (by omega)
  have qp0 : PieceIs true W (w.heap.size + 1 + 1) W.heap.size (.agg #[.int .i64 P0.node, .int .i64 P0.state, .int .i64 P0.steps, .slice P03 P0.sent.length P0k3, .slice P04 P0.inn.length P0k4, .slice P05 P0.out.length P0k5]) P0 := by rw [← hW]; exact hp0.six_far (by omega)
  have qB : Below w.heap.size w W := by rw [← hW]; exact six_below' hB (by omega)
  have qlo : w.heap.size + 1 + 1 ≤ W.heap.size := by rw [← hW]; exact Nat.le_trans hlo (Nat.le_of_eq six_size.symm)
  clear bx0 bx1 hp0 hB hlo hW
  have bx0 := qx0
  clear qx0
  have bx1 := qx1
  clear qx1
  have hp0 := qp0
  clear qp0
  have hB := qB
  have hlo := qlo
  clear qB qlo
  obtain ⟨V0, rfl⟩ : ∃ x : World, x = W := ⟨_, rfl⟩
  refine (cut6_any _ ⟨n1, s1, t1, xs1, ms1, os1⟩ _ ((h1.below hB (Nat.le_refl _)).widen (Nat.le_refl _) hB.size)).mono ?_
  rw [← HP1.out]
  rintro e v1 ⟨⟨x1, rfl, hp1⟩, hb⟩
  replace bx0 := bx0.next hb
  replace bx1 := bx1.next hb
  replace hp0 := hp0.next hb
  obtain ⟨_, _, _, rfl, ⟨P13, P1k3, rfl, _⟩, ⟨P14, P1k4, rfl, _⟩, ⟨P15, P1k5, rfl, _⟩⟩ := id hp1
  replace hp1 := hp1.widen (lo' := w.heap.size + 1 + 1) hlo (Nat.le_refl _)
  replace hB := hB.trans (hb.mono hB.size)
  replace hlo := Nat.le_trans hlo hb.size
  clear hb
  obtain ⟨c0, c1, c2, c3, c4, c5⟩ := bx1.six
  obtain ⟨f0, f1, f2, f3, f4, f5⟩ := bx1.free
  obtain ⟨d0, d1, d2, d3, d4, d5⟩ := bx0.six
  go_wp2_with fail
  clear c0 c1 c2 c3 c4 c5
  clear f0 f1 f2 f3 f4 f5
  clear d0 d1 d2 d3 d4 d5
  refine name_call fun W hW => ?_
  have qx1 : Box W (w.heap.size + 1) #[.int .i64 P1.node, .int .i64 P1.state, .int .i64 P1.steps, .slice P13 P1.sent.length P1k3, .slice P14 P1.inn.length P1k4, .slice P15 P1.out.length P1k5] 26 := by rw [← hW]; exact six_box bx1
  have qx0 : Box W (w.heap.size) #[.int .i64 P0.node, .int .i64 P0.state, .int .i64 P0.steps, .slice P03 P0.sent.length P0k3, .slice P04 P0.inn.length P0k4, .slice P05 P0.out.length P0k5] 26 := by rw [← hW]; exact bx0.six_far (by omega)
  have qp0 : PieceIs true W (w.heap.size + 1 + 1) W.heap.size (.agg #[.int .i64 P0.node, .int .i64 P0.state, .int .i64 P0.steps, .slice P03 P0.sent.length P0k3, .slice P04 P0.inn.length P0k4, .slice P05 P0.out.length P0k5]) P0 := by rw [← hW]; exact hp0.six_far (by omega)
  have qp1 : PieceIs true W (w.heap.size + 1 + 1) W.heap.size (.agg #[.int .i64 P1.node, .int .i64 P1.state, .int .i64 P1.steps, .slice P13 P1.sent.length P1k3, .slice P14 P1.inn.length P1k4, .slice P15 P1.out.length P1k5]) P1 := by rw [← hW]; exact hp1.six_far (by omega)
  have qB : Below w.heap.size w W := by rw [← hW]; exact six_below' hB (by omega)
  have qlo : w.heap.size + 1 + 1 ≤ W.heap.size := by rw [← hW]; exact Nat.le_trans hlo (Nat.le_of_eq six_size.symm)
  clear bx0 bx1 hp0 hp1 hB hlo hW
  have bx0 := qx0
  clear qx0
  have bx1 := qx1
  clear qx1
  have hp0 := qp0
  clear qp0
  have hp1 := qp1
  clear qp1
  have hB := qB
  have hlo := qlo
  clear qB qlo
  obtain ⟨W0, rfl⟩ : ∃ x : World, x = W := ⟨_, rfl⟩
  replace hp0 := hp0.zero_
  replace hp1 := hp1.zero_
  obtain ⟨X, hX⟩ : ∃ X, ByteArray.mk (Pc.enc P0).toArray = X := ⟨_, rfl⟩
  obtain ⟨E, hE0⟩ : ∃ E, Pc.err P0 = E := ⟨_, rfl⟩
  obtain ⟨D, hD⟩ : ∃ D, Pc.dec s.data.toList = D := ⟨_, rfl⟩
  obtain ⟨G, hG⟩ : ∃ G, Pc.decE s.data.toList = G := ⟨_, rfl⟩
  have HX := Lib.hid hX; have HE0 := Lib.hid hE0; have HD := Lib.hid hD; have HG := Lib.hid hG
  clear hX hE0 hD hG
  have b1 : (X.toList == X.toList) = true := by simp
  have b2 : (E == E) = true := by simp
  have b3 : (G == G) = true := by simp
  have hs6 : s.size ≤ 1000000 := by omega
  refine (encode_any _ P0 _ hp0).mono ?_
  rintro e w1 ⟨rfl, hb⟩
  replace bx0 := bx0.next hb
  replace bx1 := bx1.next hb
  replace hp0 := hp0.next hb
  replace hp1 := hp1.next hb
  replace hB := hB.trans (hb.mono hB.size)
  clear hb
  rw [HX.out, HE0.out]
  obtain ⟨c0, c1, c2, c3, c4, c5⟩ := bx0.six
  go_wp2_with fail
  clear c0 c1 c2 c3 c4 c5
  refine (ref_any _ P0 _ hp0).mono ?_
  rintro e w2 ⟨rfl, hb⟩
  replace bx0 := bx0.next hb
  replace bx1 := bx1.next hb
  replace hp0 := hp0.next hb
  replace hp1 := hp1.next hb
  replace hB := hB.trans (hb.mono hB.size)
  clear hb
  go_wp2_with fail
  refine (rencode_any _ P0 _ hp0).mono ?_
  rintro e w3 ⟨rfl, hb⟩
  replace bx0 := bx0.next hb
  replace bx1 := bx1.next hb
  replace hp0 := hp0.next hb
  replace hp1 := hp1.next hb
  replace hB := hB.trans (hb.mono hB.size)
  clear hb
  rw [HX.out, HE0.out]
  go_wp2_with fail
  refine (decode_any s _ hs6).mono ?_
  rintro e w4 ⟨⟨z, rfl, hd⟩, hb⟩
  replace bx0 := bx0.next hb
  replace bx1 := bx1.next hb
  replace hp0 := hp0.next hb
  replace hp1 := hp1.next hb
  replace hB := hB.trans (hb.mono hB.size)
  clear hb
  rw [HD.out] at hd
  rw [HG.out]
  obtain ⟨_, _, _, rfl, ⟨D3, Dk3, rfl, _⟩, ⟨D4, Dk4, rfl, _⟩, ⟨D5, Dk5, rfl, _⟩⟩ := id hd
  go_wp2_with fail
  refine (rdecode_any s _ hs6).mono ?_
  rintro e w5 ⟨⟨z, rfl, hr⟩, hb⟩
  have bx5 := (Box.new w4 #[.int .i64 D.node, .int .i64 D.state, .int .i64 D.steps, .slice D3 D.sent.length Dk3, .slice D4 D.inn.length Dk4, .slice D5 D.out.length Dk5] 26).next hb
  replace hb : Below w4.heap.size w4 w5 := ((Below.refl _ _).alloc (Nat.le_refl _) _).trans (hb.mono (by simp))
  replace bx0 := bx0.next hb
  replace bx1 := bx1.next hb
  replace hp0 := hp0.next hb
  replace hp1 := hp1.next hb
  replace hd := hd.next hb
  replace hB := hB.trans (hb.mono hB.size)
  clear hb
  rw [HD.out] at hr
  rw [HG.out]
  obtain ⟨_, _, _, rfl, ⟨R3, Rk3, rfl, _⟩, ⟨R4, Rk4, rfl, _⟩, ⟨R5, Rk5, rfl, _⟩⟩ := id hr
  go_wp2_with fail
  refine name_wp fun W1 hW1 => ?_
  have bx6 : Box W1 w5.heap.size #[.int .i64 D.node, .int .i64 D.state, .int .i64 D.steps, .slice R3 D.sent.length Rk3, .slice R4 D.inn.length Rk4, .slice R5 D.out.length Rk5] 32 := hW1 ▸ Box.new _ _ _
  have hb : Below w5.heap.size w5 W1 := hW1 ▸ (Below.refl _ _).alloc (Nat.le_refl _) _
  replace bx0 := bx0.next hb
  replace bx1 := bx1.next hb
  replace hp0 := hp0.next hb
  replace hp1 := hp1.next hb
  replace hd := hd.next hb
  replace bx5 := bx5.next hb
  replace hr := hr.next hb
  replace hB := hB.trans (hb.mono hB.size)
  clear hb hW1
  replace bx0 := bx0.next ((Below.refl _ _).drew)
  replace bx1 := bx1.next ((Below.refl _ _).drew)
  replace hp0 := hp0.next ((Below.refl _ _).drew)
  replace hp1 := hp1.next ((Below.refl _ _).drew)
  replace hd := hd.next ((Below.refl _ _).drew)
  replace bx5 := bx5.next ((Below.refl _ _).drew)
  replace hr := hr.next ((Below.refl _ _).drew)
  replace bx6 := bx6.next ((Below.refl _ _).drew)
  replace hB := hB.drew
  have hE := Ext.refl (W1.drew)
  refine region_go 170426986687002 (by kernel_rfl) ?_
  obtain ⟨c0, c1, c2, c3, c4, c5⟩ := bx0.six
  refine wpAny_go 170426986687002 0 [0] 1 49 (by kernel_rfl) (by kernel_rfl) (fun _ _ _ _ _ h => h) (by kernel_rfl) (by rfl) (by rfl) (by kernel_rfl) ?_
  simp only [List.map_cons, List.map_nil, List.getD_cons_zero]
  go_wp2_with fail
  change wpAnyM _ _ _ _ _ _ _ _ _ _
  clear c0 c1 c2 c3 c4 c5
  obtain ⟨c0, c1, c2, c3, c4, c5⟩ := bx0.six
  refine wpAny_reads 170426986687002 1 [2] 5 48 (by kernel_rfl) (by kernel_rfl) (fun _ _ _ _ _ h => h) (by kernel_rfl) (by rfl) (by rfl) (by kernel_rfl) ?_
  simp only [List.map_cons, List.map_nil, List.getD_cons_succ, List.getD_cons_zero]
  go_wp2_with fail
  change _ → wpAnyM _ _ _ _ _ _ _ _ _ _; intro _
  clear c0 c1 c2 c3 c4 c5
  refine wpAny_oneM 1 7 (by kernel_rfl) (by kernel_rfl) (of_decide_eq_true (by kernel_rfl)) (by rfl) ?_
  simp only [List.getD_cons_succ, List.getD_cons_zero]
  go_wp2_with fail
  refine (right_any _ P0 _ hp0).mono ?_
  rintro e w6 ⟨rfl, hb⟩
  replace bx0 := bx0.next hb
  replace bx1 := bx1.next hb
  replace hp0 := hp0.next hb
  replace hp1 := hp1.next hb
  replace hd := hd.next hb
  replace bx5 := bx5.next hb
  replace hr := hr.next hb
  replace bx6 := bx6.next hb
  replace hE := hE.trans (Ext.below hb (Nat.le_refl _))
  replace hB := hB.trans (hb.mono hB.size)
  clear hb
  obtain ⟨rb, hrb⟩ : ∃ rb, Pc.right P0 = rb := ⟨_, rfl⟩
  rw [hrb]
  have HRB := Lib.hid hrb; clear hrb
  go_wp2_with fail
  refine ⟨fun _ => hE, ?_⟩
  refine wpAny_oneM 3 15 (by kernel_rfl) (by kernel_rfl) (of_decide_eq_true (by kernel_rfl)) (by rfl) ?_
  simp only [List.getD_cons_succ, List.getD_cons_zero]
  go_wp2_with fail
  refine (ref_any _ P0 _ hp0).mono ?_
  rintro e w7 ⟨rfl, hb⟩
  replace bx0 := bx0.next hb
  replace bx1 := bx1.next hb
  replace hp0 := hp0.next hb
  replace hp1 := hp1.next hb
  replace hd := hd.next hb
  replace bx5 := bx5.next hb
  replace hr := hr.next hb
  replace bx6 := bx6.next hb
  replace hE := hE.trans (Ext.below hb (Nat.le_refl _))
  replace hB := hB.trans (hb.mono hB.size)
  clear hb
  go_wp2_with fail
  refine ⟨fun _ => hE, ?_⟩
  refine wpAny_oneM 4 31 (by kernel_rfl) (by kernel_rfl) (of_decide_eq_true (by kernel_rfl)) (by rfl) ?_
  simp only [List.getD_cons_succ, List.getD_cons_zero]
  go_wp2_with fail
  refine (rright_any _ P0 _ hp0).mono ?_
  rintro e w8 ⟨rfl, hb⟩
  replace bx0 := bx0.next hb
  replace bx1 := bx1.next hb
  replace hp0 := hp0.next hb
  replace hp1 := hp1.next hb
  replace hd := hd.next hb
  replace bx5 := bx5.next hb
  replace hr := hr.next hb
  replace bx6 := bx6.next hb
  replace hE := hE.trans (Ext.below hb (Nat.le_refl _))
  replace hB := hB.trans (hb.mono hB.size)
  clear hb
  rw [HRB.out]
  go_wp2_with fail
  refine ⟨fun _ => hE, ?_⟩
  obtain ⟨c0, c1, c2, c3, c4, c5⟩ := bx0.six
  obtain ⟨d0, d1, d2, d3, d4, d5⟩ := bx1.six
  refine wpAny_go 170426986687002 31 [5, 6, 7, 8] 511 41 (by kernel_rfl) (by kernel_rfl) (fun _ _ _ _ _ h => h) (by kernel_rfl) (by rfl) (by rfl) (by kernel_rfl) ?_
  simp only [List.map_cons, List.map_nil, List.getD_cons_succ, List.getD_cons_zero]
  go_wp2_with fail
  change wpAnyM _ _ _ _ _ _ _ _ _ _
  clear c0 c1 c2 c3 c4 c5
  clear d0 d1 d2 d3 d4 d5
  obtain ⟨c0, c1, c2, c3, c4, c5⟩ := bx0.six
  obtain ⟨d0, d1, d2, d3, d4, d5⟩ := bx1.six
  refine wpAnyM_rebase hE _ _ _ _ ?_
  clear hE
  have hE := Ext.refl w8
  refine wpAny_reads 170426986687002 511 [10, 12] 5631 39 (by kernel_rfl) (by kernel_rfl) (fun _ _ _ _ _ h => h) (by kernel_rfl) (by rfl) (by rfl) (by kernel_rfl) ?_
  simp only [List.map_cons, List.map_nil, List.getD_cons_succ, List.getD_cons_zero]
  go_wp2_with fail
  change _ → wpAnyM _ _ _ _ _ _ _ _ _ _; intro _
  clear c0 c1 c2 c3 c4 c5
  clear d0 d1 d2 d3 d4 d5
  refine wpAny_oneM 9 6143 (by kernel_rfl) (by kernel_rfl) (of_decide_eq_true (by kernel_rfl)) (by rfl) ?_
  simp only [List.getD_cons_succ, List.getD_cons_zero]
  go_wp2_with fail
  refine (same_any _ _ P0 P1 _ hp0 hp1).mono ?_
  rintro e w9 ⟨rfl, hb⟩
  replace bx0 := bx0.next hb
  replace bx1 := bx1.next hb
  replace hp0 := hp0.next hb
  replace hp1 := hp1.next hb
  replace hd := hd.next hb
  replace bx5 := bx5.next hb
  replace hr := hr.next hb
  replace bx6 := bx6.next hb
  replace hE := hE.trans (Ext.below hb (Nat.le_refl _))
  replace hB := hB.trans (hb.mono hB.size)
  clear hb
  obtain ⟨sb, hsb⟩ : ∃ sb, decide (P0 = P1) = sb := ⟨_, rfl⟩
  rw [hsb]
  have HSB := Lib.hid hsb; clear hsb
  go_wp2_with fail
  refine ⟨fun _ => hE, ?_⟩
  refine wpAny_oneM 11 8191 (by kernel_rfl) (by kernel_rfl) (of_decide_eq_true (by kernel_rfl)) (by rfl) ?_
  simp only [List.getD_cons_succ, List.getD_cons_zero]
  go_wp2_with fail
  refine (ref_any _ P0 _ hp0).mono ?_
  rintro e w10 ⟨rfl, hb⟩
  replace bx0 := bx0.next hb
  replace bx1 := bx1.next hb
  replace hp0 := hp0.next hb
  replace hp1 := hp1.next hb
  replace hd := hd.next hb
  replace bx5 := bx5.next hb
  replace hr := hr.next hb
  replace bx6 := bx6.next hb
  replace hE := hE.trans (Ext.below hb (Nat.le_refl _))
  replace hB := hB.trans (hb.mono hB.size)
  clear hb
  go_wp2_with fail
  refine ⟨fun _ => hE, ?_⟩
  refine wpAny_oneM 13 16383 (by kernel_rfl) (by kernel_rfl) (of_decide_eq_true (by kernel_rfl)) (by rfl) ?_
  simp only [List.getD_cons_succ, List.getD_cons_zero]
  go_wp2_with fail
  refine (ref_any _ P1 _ hp1).mono ?_
  rintro e w11 ⟨rfl, hb⟩
  replace bx0 := bx0.next hb
  replace bx1 := bx1.next hb
  replace hp0 := hp0.next hb
  replace hp1 := hp1.next hb
  replace hd := hd.next hb
  replace bx5 := bx5.next hb
  replace hr := hr.next hb
  replace bx6 := bx6.next hb
  replace hE := hE.trans (Ext.below hb (Nat.le_refl _))
  replace hB := hB.trans (hb.mono hB.size)
  clear hb
  go_wp2_with fail
  refine ⟨fun _ => hE, ?_⟩
  refine wpAny_oneM 14 32767 (by kernel_rfl) (by kernel_rfl) (of_decide_eq_true (by kernel_rfl)) (by rfl) ?_
  simp only [List.getD_cons_succ, List.getD_cons_zero]
  go_wp2_with fail
  refine (rsame_any _ _ P0 P1 _ hp0 hp1).mono ?_
  rintro e w12 ⟨rfl, hb⟩
  replace bx0 := bx0.next hb
  replace bx1 := bx1.next hb
  replace hp0 := hp0.next hb
  replace hp1 := hp1.next hb
  replace hd := hd.next hb
  replace bx5 := bx5.next hb
  replace hr := hr.next hb
  replace bx6 := bx6.next hb
  replace hE := hE.trans (Ext.below hb (Nat.le_refl _))
  replace hB := hB.trans (hb.mono hB.size)
  clear hb
  rw [HSB.out]
  go_wp2_with fail
  refine ⟨fun _ => hE, ?_⟩
  obtain ⟨c0, c1, c2, c3, c4, c5⟩ := bx5.six
  refine wpAny_go 170426986687002 32767 [15, 16, 17, 18, 19, 20, 21, 22, 23, 24, 25, 26, 27, 28] 536870911 21 (by kernel_rfl) (by kernel_rfl) (fun _ _ _ _ _ h => h) (by kernel_rfl) (by rfl) (by rfl) (by kernel_rfl) ?_
  simp only [List.map_cons, List.map_nil, List.getD_cons_succ, List.getD_cons_zero]
  go_wp2_with fail
  change wpAnyM _ _ _ _ _ _ _ _ _ _
  clear c0 c1 c2 c3 c4 c5
  obtain ⟨c0, c1, c2, c3, c4, c5⟩ := bx6.six
  refine wpAnyM_rebase hE _ _ _ _ ?_
  clear hE
  have hE := Ext.refl w12
  refine wpAny_reads 170426986687002 536870911 [30] 1610612735 20 (by kernel_rfl) (by kernel_rfl) (fun _ _ _ _ _ h => h) (by kernel_rfl) (by rfl) (by rfl) (by kernel_rfl) ?_
  simp only [List.map_cons, List.map_nil, List.getD_cons_succ, List.getD_cons_zero]
  go_wp2_with fail
  change _ → wpAnyM _ _ _ _ _ _ _ _ _ _; intro _
  clear c0 c1 c2 c3 c4 c5
  refine wpAny_oneM 29 2147483647 (by kernel_rfl) (by kernel_rfl) (of_decide_eq_true (by kernel_rfl)) (by rfl) ?_
  simp only [List.getD_cons_succ, List.getD_cons_zero]
  go_wp2_with fail
  refine (ref_any _ D _ hd).mono ?_
  rintro e w13 ⟨rfl, hb⟩
  replace bx0 := bx0.next hb
  replace bx1 := bx1.next hb
  replace hp0 := hp0.next hb
  replace hp1 := hp1.next hb
  replace hd := hd.next hb
  replace bx5 := bx5.next hb
  replace hr := hr.next hb
  replace bx6 := bx6.next hb
  replace hE := hE.trans (Ext.below hb (Nat.le_refl _))
  replace hB := hB.trans (hb.mono hB.size)
  clear hb
  go_wp2_with fail
  refine ⟨fun _ => hE, ?_⟩
  refine wpAny_oneM 31 4294967295 (by kernel_rfl) (by kernel_rfl) (of_decide_eq_true (by kernel_rfl)) (by rfl) ?_
  simp only [List.getD_cons_succ, List.getD_cons_zero]
  go_wp2_with fail
  refine (rsame_any _ _ D D _ hd.zero_ hr.zero_).mono ?_
  rintro e w14 ⟨rfl, hb⟩
  replace bx0 := bx0.next hb
  replace bx1 := bx1.next hb
  replace hp0 := hp0.next hb
  replace hp1 := hp1.next hb
  replace hd := hd.next hb
  replace bx5 := bx5.next hb
  replace hr := hr.next hb
  replace bx6 := bx6.next hb
  replace hE := hE.trans (Ext.below hb (Nat.le_refl _))
  replace hB := hB.trans (hb.mono hB.size)
  clear hb
  rw [show decide (D = D) = true from decide_eq_true rfl]
  go_wp2_with fail
  refine ⟨fun _ => hE, ?_⟩
  obtain ⟨c0, c1, c2, c3, c4, c5⟩ := bx0.six
  refine wpAny_go 170426986687002 4294967295 [32, 33, 34, 35, 36, 37, 38, 39] 1099511627775 10 (by kernel_rfl) (by kernel_rfl) (fun _ _ _ _ _ h => h) (by kernel_rfl) (by rfl) (by rfl) (by kernel_rfl) ?_
  simp only [List.map_cons, List.map_nil, List.getD_cons_succ, List.getD_cons_zero]
  go_wp2_with fail
  change wpAnyM _ _ _ _ _ _ _ _ _ _
  clear c0 c1 c2 c3 c4 c5
  obtain ⟨c0, c1, c2, c3, c4, c5⟩ := bx0.six
  refine wpAnyM_rebase hE _ _ _ _ ?_
  clear hE
  have hE := Ext.refl w14
  refine wpAny_reads 170426986687002 1099511627775 [42] 5497558138879 9 (by kernel_rfl) (by kernel_rfl) (fun _ _ _ _ _ h => h) (by kernel_rfl) (by rfl) (by rfl) (by kernel_rfl) ?_
  simp only [List.map_cons, List.map_nil, List.getD_cons_succ, List.getD_cons_zero]
  go_wp2_with fail
  change _ → wpAnyM _ _ _ _ _ _ _ _ _ _; intro _
  clear c0 c1 c2 c3 c4 c5
  refine wpAny_oneM 40 6597069766655 (by kernel_rfl) (by kernel_rfl) (of_decide_eq_true (by kernel_rfl)) (by rfl) ?_
  simp only [List.getD_cons_succ, List.getD_cons_zero]
  go_wp2_with fail
  refine (Own_any _ P0 _ hp0 hsz0).mono ?_
  rintro e w15 ⟨⟨v6, rfl, hz⟩, hb⟩
  replace bx0 := bx0.next hb
  replace bx1 := bx1.next hb
  replace hp0 := hp0.next hb
  replace hp1 := hp1.next hb
  replace hd := hd.next hb
  replace bx5 := bx5.next hb
  replace hr := hr.next hb
  replace bx6 := bx6.next hb
  replace hE := hE.trans (Ext.below hb (Nat.le_refl _))
  replace hB := hB.trans (hb.mono hB.size)
  clear hb
  go_wp2_with fail
  refine ⟨fun _ => hE, ?_⟩
  refine wpAny_oneM 41 8796093022207 (by kernel_rfl) (by kernel_rfl) (of_decide_eq_true (by kernel_rfl)) (by rfl) ?_
  simp only [List.getD_cons_succ, List.getD_cons_zero]
  go_wp2_with fail
  refine (ref_any _ P0 _ hz).mono ?_
  rintro e w16 ⟨rfl, hb⟩
  replace bx0 := bx0.next hb
  replace bx1 := bx1.next hb
  replace hp0 := hp0.next hb
  replace hp1 := hp1.next hb
  replace hd := hd.next hb
  replace bx5 := bx5.next hb
  replace hr := hr.next hb
  replace bx6 := bx6.next hb
  replace hz := hz.next hb
  replace hE := hE.trans (Ext.below hb (Nat.le_refl _))
  replace hB := hB.trans (hb.mono hB.size)
  clear hb
  go_wp2_with fail
  refine ⟨fun _ => hE, ?_⟩
  refine wpAny_oneM 43 17592186044415 (by kernel_rfl) (by kernel_rfl) (of_decide_eq_true (by kernel_rfl)) (by rfl) ?_
  simp only [List.getD_cons_succ, List.getD_cons_zero]
  go_wp2_with fail
  refine (ref_any _ P0 _ hp0).mono ?_
  rintro e w17 ⟨rfl, hb⟩
  replace bx0 := bx0.next hb
  replace bx1 := bx1.next hb
  replace hp0 := hp0.next hb
  replace hp1 := hp1.next hb
  replace hd := hd.next hb
  replace bx5 := bx5.next hb
  replace hr := hr.next hb
  replace bx6 := bx6.next hb
  replace hz := hz.next hb
  replace hE := hE.trans (Ext.below hb (Nat.le_refl _))
  replace hB := hB.trans (hb.mono hB.size)
  clear hb
  go_wp2_with fail
  refine ⟨fun _ => hE, ?_⟩
  refine wpAny_oneM 44 35184372088831 (by kernel_rfl) (by kernel_rfl) (of_decide_eq_true (by kernel_rfl)) (by rfl) ?_
  simp only [List.getD_cons_succ, List.getD_cons_zero]
  go_wp2_with fail
  refine (rsame_any _ _ P0 P0 _ hz.zero_ hp0).mono ?_
  rintro e w18 ⟨rfl, hb⟩
  replace bx0 := bx0.next hb
  replace bx1 := bx1.next hb
  replace hp0 := hp0.next hb
  replace hp1 := hp1.next hb
  replace hd := hd.next hb
  replace bx5 := bx5.next hb
  replace hr := hr.next hb
  replace bx6 := bx6.next hb
  replace hz := hz.next hb
  replace hE := hE.trans (Ext.below hb (Nat.le_refl _))
  replace hB := hB.trans (hb.mono hB.size)
  clear hb
  rw [show decide (P0 = P0) = true from decide_eq_true rfl]
  go_wp2_with fail
  refine ⟨fun _ => hE, ?_⟩
  refine wpAny_go 170426986687002 35184372088831 [45, 46] 140737488355327 3 (by kernel_rfl) (by kernel_rfl) (fun _ _ _ _ _ h => h) (by kernel_rfl) (by rfl) (by rfl) (by kernel_rfl) ?_
  simp only [List.map_cons, List.map_nil, List.getD_cons_succ, List.getD_cons_zero]
  go_wp2_with fail
  change wpAnyM _ _ _ _ _ _ _ _ _ _
  refine wpAny_oneM 47 281474976710655 (by kernel_rfl) (by kernel_rfl) (of_decide_eq_true (by kernel_rfl)) (by rfl) ?_
  simp only [List.getD_cons_succ, List.getD_cons_zero]
  go_wp2_with fail
  refine (fixed6_any _).mono ?_
  rintro e w19 ⟨rfl, hb⟩
  replace bx0 := bx0.next hb
  replace bx1 := bx1.next hb
  replace hp0 := hp0.next hb
  replace hp1 := hp1.next hb
  replace hd := hd.next hb
  replace bx5 := bx5.next hb
  replace hr := hr.next hb
  replace bx6 := bx6.next hb
  replace hz := hz.next hb
  replace hE := hE.trans (Ext.below hb (Nat.le_refl _))
  replace hB := hB.trans (hb.mono hB.size)
  clear hb
  go_wp2_with fail
  refine ⟨fun _ => hE, ?_⟩
  refine wpAny_go 170426986687002 281474976710655 [48, 49] 1125899906842623 0 (by kernel_rfl) (by kernel_rfl) (fun _ _ _ _ _ h => h) (by kernel_rfl) (by rfl) (by rfl) (by kernel_rfl) ?_
  simp only [List.map_cons, List.map_nil, List.getD_cons_succ, List.getD_cons_zero]
  go_wp2_with fail
  change wpAnyM _ _ _ _ _ _ _ _ _ _
  refine wpAny_endM (by kernel_rfl) (by kernel_rfl) ?_
  go_wp2_with fail
  go_ret
  exact ⟨rfl, hB⟩
end Go.Proofs.Ytdfgnmdofjhnkaa.pieceTells
