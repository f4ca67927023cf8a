/- PieceBack: the walk. -/
import Derived.Test.YtdfgnmdofjhnkaaPV
namespace Go.Proofs.Ytdfgnmdofjhnkaa.pieceBack
open Go.RowKit Go.Proofs.Ytdfgnmdofjhnkaa

set_option maxRecDepth 100000 in
set_option maxHeartbeats 8000000 in
theorem walk_yy (v0 : Value) (p0 : Pc.Piece) (a1 : ByteArray) (w : World) (h0 : PieceIs false w 0 w.heap.size v0 p0) (hr : Pc.right (Pc.cut p0) = true) (hd : Pc.decE (a1.extract 0 (min (a1.size : Int) 300).toNat).data.toList = 0) :
    Calls Try.prog 4 #[v0, .string a1] w fun x w' => x = .returned (.bool true) ∧ Below w.heap.size w w' := by
  obtain ⟨s, hse⟩ : ∃ s, a1.extract 0 (min (a1.size : Int) 300).toNat = s := ⟨_, rfl⟩
  have hx := str_cut a1 300 (min (a1.size : Int) 300).toNat (by omega)
  rw [hse] at hx hd
  have HSZ := Lib.hid (show s.data.toList.length ≤ 1000000 by have : s.size = s.data.toList.length := (by rw [Array.length_toList]; rfl); omega)
  have HR := Lib.hid hr; clear hr
  have HDE := Lib.hid hd; clear hd
  obtain ⟨n0, s0, t0, xs0, ms0, os0⟩ := p0
  obtain ⟨_, _, _, rfl, ⟨A0, k0, rfl, _⟩, ⟨B0, l0, rfl, _⟩, ⟨C0, m0, rfl, _⟩⟩ := id h0
  dsimp only at *
  obtain ⟨P0, hP0⟩ : ∃ P, P = Pc.cut ⟨n0, s0, t0, xs0, ms0, os0⟩ := ⟨_, rfl⟩
  have hsz0 : Pc.sized P0 := hP0 ▸ Pc.cut_sized _
  have HP0 := Lib.hid hP0; clear hP0
  go_enter Try.func4, Try.ntmps4
  try simp only [List.append_eq, List.cons_append, List.nil_append]
  go_wp2_with fail
  refine name_call fun W0 hW0 => ?_
  have bx0 : Box W0 (w.heap.size) #[.int .i64 n0, .int .i64 s0, .int .i64 t0, .slice A0 xs0.length k0, .slice B0 ms0.length l0, .slice C0 os0.length m0] 26 := hW0 ▸ (Box.new' #[.int .i64 n0, .int .i64 s0, .int .i64 t0, .slice A0 xs0.length k0, .slice B0 ms0.length l0, .slice C0 os0.length m0] 26 (by simp))
  have hB : Below w.heap.size w W0 := hW0 ▸ ((Below.refl _ _).alloc (by first | (simp; done) | (simp; omega)) _)
  have hlo : w.heap.size + 1 ≤ W0.heap.size := hW0 ▸ (by simp)
  clear hW0
  refine (cut6_any _ ⟨n0, s0, t0, xs0, ms0, os0⟩ _ ((h0.below hB (Nat.le_refl _)).widen (Nat.le_refl _) hB.size)).mono ?_
  rw [← HP0.out]
  rintro e v0 ⟨⟨x0, rfl, hp0⟩, hb⟩
  replace bx0 := bx0.next hb
  obtain ⟨_, _, _, rfl, ⟨P03, P0k3, rfl, _⟩, ⟨P04, P0k4, rfl, _⟩, ⟨P05, P0k5, rfl, _⟩⟩ := id hp0
  replace hp0 := hp0.widen (lo' := w.heap.size + 1) hlo (Nat.le_refl _)
  replace hB := hB.trans (hb.mono hB.size)
  replace hlo := Nat.le_trans hlo hb.size
  clear hb
  obtain ⟨c0, c1, c2, c3, c4, c5⟩ := bx0.six
  obtain ⟨f0, f1, f2, f3, f4, f5⟩ := bx0.free
  go_wp2_with fail
  clear c0 c1 c2 c3 c4 c5
  clear f0 f1 f2 f3 f4 f5
  refine name_call fun W hW => ?_
  have qx0 : Box W (w.heap.size) #[.int .i64 P0.node, .int .i64 P0.state, .int .i64 P0.steps, .slice P03 P0.sent.length P0k3, .slice P04 P0.inn.length P0k4, .slice P05 P0.out.length P0k5] 26 := by rw [← hW]; exact six_box bx0
  have qp0 : PieceIs true W (w.heap.size + 1) W.heap.size (.agg #[.int .i64 P0.node, .int .i64 P0.state, .int .i64 P0.steps, .slice P03 P0.sent.length P0k3, .slice P04 P0.inn.length P0k4, .slice P05 P0.out.length P0k5]) P0 := by rw [← hW]; exact hp0.six_far (by omega)
  have qB : Below w.heap.size w W := by rw [← hW]; exact six_below' hB (by omega)
  have qlo : w.heap.size + 1 ≤ W.heap.size := by rw [← hW]; exact Nat.le_trans hlo (Nat.le_of_eq six_size.symm)
  clear bx0 hp0 hB hlo hW
  have bx0 := qx0
  clear qx0
  have hp0 := qp0
  clear qp0
  have hB := qB
  have hlo := qlo
  clear qB qlo
  obtain ⟨W0, rfl⟩ : ∃ x : World, x = W := ⟨_, rfl⟩
  replace hp0 := hp0.zero_
  have hR := HP0.out ▸ HR.out
  have HE1 := Lib.hid (show Pc.err P0 = 0 by simp [Pc.err, hR])
  have HE2 := Lib.hid (show Pc.enc P0 = W.puts (Pc.nums P0) by simp [Pc.enc, hR])
  obtain ⟨X, hX⟩ : ∃ X, ByteArray.mk (Pc.enc P0).toArray = X := ⟨_, rfl⟩
  have HD1 := Lib.hid (Pc.dec_enc hR)
  have HXL := Lib.hid (show X.data.toList = Pc.enc P0 by rw [← hX])
  have HX := Lib.hid hX
  clear hX
  have HR1 := Lib.hid hR
  clear hR
  refine (encodeq hp0 HX.out HE1.out).mono ?_
  rintro e w1 ⟨rfl, hb⟩
  replace bx0 := bx0.next hb
  replace hp0 := hp0.next hb
  replace hB := hB.trans (hb.mono hB.size)
  clear hb
  obtain ⟨c0, c1, c2, c3, c4, c5⟩ := bx0.six
  go_wp2_with fail
  clear c0 c1 c2 c3 c4 c5
  refine (rightq hp0 HR1.out).mono ?_
  rintro e w2 ⟨rfl, hb⟩
  replace bx0 := bx0.next hb
  replace hp0 := hp0.next hb
  replace hB := hB.trans (hb.mono hB.size)
  clear hb
  go_wp2_with fail
  refine (decodeq (s := X) (l := Pc.enc P0) (p := P0) (n := 0) _ HXL.out (enc_len P0) (by rw [HE2.out]; exact HD1.out.1) (by rw [HE2.out]; exact HD1.out.2)).mono ?_
  rintro e w3 ⟨⟨X1, x1, X2, x2, X3, x3, rfl, hd⟩, hb⟩
  replace bx0 := bx0.next hb
  replace hp0 := hp0.next hb
  replace hB := hB.trans (hb.mono hB.size)
  clear hb
  obtain ⟨c0, c1, c2, c3, c4, c5⟩ := bx0.six
  have ne2 : w.heap.size < w3.heap.size := bx0.lt
  go_wp2_with fail
  clear ne2
  refine name_call fun W1 hW1 => ?_
  have bx7 : Box W1 w3.heap.size #[.int .i64 P0.node, .int .i64 P0.state, .int .i64 P0.steps, .slice X1 P0.sent.length x1, .slice X2 P0.inn.length x2, .slice X3 P0.out.length x3] 26 := hW1 ▸ Box.new _ _ _
  have hb : Below w3.heap.size w3 W1 := hW1 ▸ (Below.refl _ _).alloc (Nat.le_refl _) _
  clear c0 c1 c2 c3 c4 c5
  replace bx0 := bx0.next hb
  replace hp0 := hp0.next hb
  replace hd := hd.next hb
  replace hB := hB.trans (hb.mono hB.size)
  clear hb hW1
  refine (sameq hd.zero_ hp0 rfl).mono ?_
  rintro e w4 ⟨rfl, hb⟩
  replace bx0 := bx0.next hb
  replace hp0 := hp0.next hb
  replace hd := hd.next hb
  replace bx7 := bx7.next hb
  replace hB := hB.trans (hb.mono hB.size)
  clear hb
  go_wp2_with fail
  clear hd bx7
  refine (decodeq (s := s) (p := Pc.dec s.data.toList) (n := 0) _ rfl HSZ.out rfl HDE.out).mono ?_
  rintro e w5 ⟨⟨X1, x1, X2, x2, X3, x3, rfl, hd⟩, hb⟩
  replace bx0 := bx0.next hb
  replace hp0 := hp0.next hb
  replace hB := hB.trans (hb.mono hB.size)
  clear hb
  obtain ⟨D, hD⟩ : ∃ D, Pc.dec s.data.toList = D := ⟨_, rfl⟩
  have HD := Lib.hid hD
  rw [hD] at hd ⊢
  clear hD
  go_wp2_with fail
  refine name_call fun W2 hW2 => ?_
  have bx9 : Box W2 w5.heap.size #[.int .i64 D.node, .int .i64 D.state, .int .i64 D.steps, .slice X1 D.sent.length x1, .slice X2 D.inn.length x2, .slice X3 D.out.length x3] 26 := hW2 ▸ Box.new _ _ _
  have hb : Below w5.heap.size w5 W2 := hW2 ▸ (Below.refl _ _).alloc (Nat.le_refl _) _
  replace bx0 := bx0.next hb
  replace hp0 := hp0.next hb
  replace hd := hd.next hb
  replace hB := hB.trans (hb.mono hB.size)
  clear hb hW2
  have hrd := HD.out ▸ (Pc.dec_right HDE.out)
  have HRD := Lib.hid hrd
  have b1 : (s.toList == s.toList) = true := by simp
  clear hrd
  refine (encodeq (S := s) (n := 0) hd.zero_ (bytes_of (by simp only [Pc.enc, HRD.out.1, if_true]; exact HRD.out.2)) (by simp [Pc.err, HRD.out.1])).mono ?_
  rintro e w6 ⟨rfl, hb⟩
  replace bx0 := bx0.next hb
  replace hp0 := hp0.next hb
  replace hd := hd.next hb
  replace bx9 := bx9.next hb
  replace hB := hB.trans (hb.mono hB.size)
  clear hb
  obtain ⟨c0, c1, c2, c3, c4, c5⟩ := bx9.six
  go_wp2_with fail
  clear c0 c1 c2 c3 c4 c5
  refine (rightq hd.zero_ HRD.out.1).mono ?_
  rintro e w7 ⟨rfl, hb⟩
  replace bx0 := bx0.next hb
  replace hp0 := hp0.next hb
  replace hd := hd.next hb
  replace bx9 := bx9.next hb
  replace hB := hB.trans (hb.mono hB.size)
  clear hb
  go_wp2_with fail
  refine (fixed6_any _).mono ?_
  rintro e w8 ⟨rfl, hb⟩
  replace bx0 := bx0.next hb
  replace hp0 := hp0.next hb
  replace hd := hd.next hb
  replace bx9 := bx9.next hb
  replace hB := hB.trans (hb.mono hB.size)
  clear hb
  go_wp2_with fail
  go_ret
  exact ⟨rfl, hB⟩

set_option maxRecDepth 100000 in
set_option maxHeartbeats 8000000 in
theorem walk_yn (v0 : Value) (p0 : Pc.Piece) (a1 : ByteArray) (w : World) (h0 : PieceIs false w 0 w.heap.size v0 p0) (hr : Pc.right (Pc.cut p0) = true) (hd : Pc.decE (a1.extract 0 (min (a1.size : Int) 300).toNat).data.toList ≠ 0) :
    Calls Try.prog 4 #[v0, .string a1] w fun x w' => x = .returned (.bool true) ∧ Below w.heap.size w w' := by
  obtain ⟨s, hse⟩ : ∃ s, a1.extract 0 (min (a1.size : Int) 300).toNat = s := ⟨_, rfl⟩
  have hx := str_cut a1 300 (min (a1.size : Int) 300).toNat (by omega)
  rw [hse] at hx hd
  have HSZ := Lib.hid (show s.data.toList.length ≤ 1000000 by have : s.size = s.data.toList.length := (by rw [Array.length_toList]; rfl); omega)
  have HR := Lib.hid hr; clear hr
  have HDE := Lib.hid hd; clear hd
  obtain ⟨n0, s0, t0, xs0, ms0, os0⟩ := p0
  obtain ⟨_, _, _, rfl, ⟨A0, k0, rfl, _⟩, ⟨B0, l0, rfl, _⟩, ⟨C0, m0, rfl, _⟩⟩ := id h0
  dsimp only at *
  obtain ⟨P0, hP0⟩ : ∃ P, P = Pc.cut ⟨n0, s0, t0, xs0, ms0, os0⟩ := ⟨_, rfl⟩
  have hsz0 : Pc.sized P0 := hP0 ▸ Pc.cut_sized _
  have HP0 := Lib.hid hP0; clear hP0
  go_enter Try.func4, Try.ntmps4
  try simp only [List.append_eq, List.cons_append, List.nil_append]
  go_wp2_with fail
  refine name_call fun W0 hW0 => ?_
  have bx0 : Box W0 (w.heap.size) #[.int .i64 n0, .int .i64 s0, .int .i64 t0, .slice A0 xs0.length k0, .slice B0 ms0.length l0, .slice C0 os0.length m0] 26 := hW0 ▸ (Box.new' #[.int .i64 n0, .int .i64 s0, .int .i64 t0, .slice A0 xs0.length k0, .slice B0 ms0.length l0, .slice C0 os0.length m0] 26 (by simp))
  have hB : Below w.heap.size w W0 := hW0 ▸ ((Below.refl _ _).alloc (by first | (simp; done) | (simp; omega)) _)
  have hlo : w.heap.size + 1 ≤ W0.heap.size := hW0 ▸ (by simp)
  clear hW0
  refine (cut6_any _ ⟨n0, s0, t0, xs0, ms0, os0⟩ _ ((h0.below hB (Nat.le_refl _)).widen (Nat.le_refl _) hB.size)).mono ?_
  rw [← HP0.out]
  rintro e v0 ⟨⟨x0, rfl, hp0⟩, hb⟩
  replace bx0 := bx0.next hb
  obtain ⟨_, _, _, rfl, ⟨P03, P0k3, rfl, _⟩, ⟨P04, P0k4, rfl, _⟩, ⟨P05, P0k5, rfl, _⟩⟩ := id hp0
  replace hp0 := hp0.widen (lo' := w.heap.size + 1) hlo (Nat.le_refl _)
  replace hB := hB.trans (hb.mono hB.size)
  replace hlo := Nat.le_trans hlo hb.size
  clear hb
  obtain ⟨c0, c1, c2, c3, c4, c5⟩ := bx0.six
  obtain ⟨f0, f1, f2, f3, f4, f5⟩ := bx0.free
  go_wp2_with fail
  clear c0 c1 c2 c3 c4 c5
  clear f0 f1 f2 f3 f4 f5
  refine name_call fun W hW => ?_
  have qx0 : Box W (w.heap.size) #[.int .i64 P0.node, .int .i64 P0.state, .int .i64 P0.steps, .slice P03 P0.sent.length P0k3, .slice P04 P0.inn.length P0k4, .slice P05 P0.out.length P0k5] 26 := by rw [← hW]; exact six_box bx0
  have qp0 : PieceIs true W (w.heap.size + 1) W.heap.size (.agg #[.int .i64 P0.node, .int .i64 P0.state, .int .i64 P0.steps, .slice P03 P0.sent.length P0k3, .slice P04 P0.inn.length P0k4, .slice P05 P0.out.length P0k5]) P0 := by rw [← hW]; exact hp0.six_far (by omega)
  have qB : Below w.heap.size w W := by rw [← hW]; exact six_below' hB (by omega)
  have qlo : w.heap.size + 1 ≤ W.heap.size := by rw [← hW]; exact Nat.le_trans hlo (Nat.le_of_eq six_size.symm)
  clear bx0 hp0 hB hlo hW
  have bx0 := qx0
  clear qx0
  have hp0 := qp0
  clear qp0
  have hB := qB
  have hlo := qlo
  clear qB qlo
  obtain ⟨W0, rfl⟩ : ∃ x : World, x = W := ⟨_, rfl⟩
  replace hp0 := hp0.zero_
  have hR := HP0.out ▸ HR.out
  have HE1 := Lib.hid (show Pc.err P0 = 0 by simp [Pc.err, hR])
  have HE2 := Lib.hid (show Pc.enc P0 = W.puts (Pc.nums P0) by simp [Pc.enc, hR])
  obtain ⟨X, hX⟩ : ∃ X, ByteArray.mk (Pc.enc P0).toArray = X := ⟨_, rfl⟩
  have HD1 := Lib.hid (Pc.dec_enc hR)
  have HXL := Lib.hid (show X.data.toList = Pc.enc P0 by rw [← hX])
  have HX := Lib.hid hX
  clear hX
  have HR1 := Lib.hid hR
  clear hR
  refine (encodeq hp0 HX.out HE1.out).mono ?_
  rintro e w1 ⟨rfl, hb⟩
  replace bx0 := bx0.next hb
  replace hp0 := hp0.next hb
  replace hB := hB.trans (hb.mono hB.size)
  clear hb
  obtain ⟨c0, c1, c2, c3, c4, c5⟩ := bx0.six
  go_wp2_with fail
  clear c0 c1 c2 c3 c4 c5
  refine (rightq hp0 HR1.out).mono ?_
  rintro e w2 ⟨rfl, hb⟩
  replace bx0 := bx0.next hb
  replace hp0 := hp0.next hb
  replace hB := hB.trans (hb.mono hB.size)
  clear hb
  go_wp2_with fail
  refine (decodeq (s := X) (l := Pc.enc P0) (p := P0) (n := 0) _ HXL.out (enc_len P0) (by rw [HE2.out]; exact HD1.out.1) (by rw [HE2.out]; exact HD1.out.2)).mono ?_
  rintro e w3 ⟨⟨X1, x1, X2, x2, X3, x3, rfl, hd⟩, hb⟩
  replace bx0 := bx0.next hb
  replace hp0 := hp0.next hb
  replace hB := hB.trans (hb.mono hB.size)
  clear hb
  obtain ⟨c0, c1, c2, c3, c4, c5⟩ := bx0.six
  have ne2 : w.heap.size < w3.heap.size := bx0.lt
  go_wp2_with fail
  clear ne2
  refine name_call fun W1 hW1 => ?_
  have bx7 : Box W1 w3.heap.size #[.int .i64 P0.node, .int .i64 P0.state, .int .i64 P0.steps, .slice X1 P0.sent.length x1, .slice X2 P0.inn.length x2, .slice X3 P0.out.length x3] 26 := hW1 ▸ Box.new _ _ _
  have hb : Below w3.heap.size w3 W1 := hW1 ▸ (Below.refl _ _).alloc (Nat.le_refl _) _
  clear c0 c1 c2 c3 c4 c5
  replace bx0 := bx0.next hb
  replace hp0 := hp0.next hb
  replace hd := hd.next hb
  replace hB := hB.trans (hb.mono hB.size)
  clear hb hW1
  refine (sameq hd.zero_ hp0 rfl).mono ?_
  rintro e w4 ⟨rfl, hb⟩
  replace bx0 := bx0.next hb
  replace hp0 := hp0.next hb
  replace hd := hd.next hb
  replace bx7 := bx7.next hb
  replace hB := hB.trans (hb.mono hB.size)
  clear hb
  go_wp2_with fail
  clear hd bx7
  refine (decodeq (s := s) (p := Pc.zero) (n := 4) _ rfl HSZ.out (Pc.dec_zero HDE.out).1 (Pc.dec_zero HDE.out).2).mono ?_
  rintro e w5 ⟨⟨X1, x1, X2, x2, X3, x3, rfl, hd⟩, hb⟩
  replace bx0 := bx0.next hb
  replace hp0 := hp0.next hb
  replace hB := hB.trans (hb.mono hB.size)
  clear hb
  dsimp only [Pc.zero, List.length_nil] at hd ⊢
  go_wp2_with fail
  refine name_call fun W2 hW2 => ?_
  have hb : Below w5.heap.size w5 W2 := hW2 ▸ (Below.refl _ _).alloc (Nat.le_refl _) _
  replace bx0 := bx0.next hb
  replace hp0 := hp0.next hb
  replace hd := hd.next hb
  replace hB := hB.trans (hb.mono hB.size)
  clear hb hW2
  refine (sameq hd.zero_ zero_is rfl).mono ?_
  rintro e w6 ⟨rfl, hb⟩
  replace bx0 := bx0.next hb
  replace hp0 := hp0.next hb
  replace hd := hd.next hb
  replace hB := hB.trans (hb.mono hB.size)
  clear hb
  go_wp2_with fail
  refine (fixed6_any _).mono ?_
  rintro e w7 ⟨rfl, hb⟩
  replace bx0 := bx0.next hb
  replace hp0 := hp0.next hb
  replace hd := hd.next hb
  replace hB := hB.trans (hb.mono hB.size)
  clear hb
  go_wp2_with fail
  go_ret
  exact ⟨rfl, hB⟩

set_option maxRecDepth 100000 in
set_option maxHeartbeats 8000000 in
theorem walk_ny (v0 : Value) (p0 : Pc.Piece) (a1 : ByteArray) (w : World) (h0 : PieceIs false w 0 w.heap.size v0 p0) (hr : Pc.right (Pc.cut p0) = false) (hd : Pc.decE (a1.extract 0 (min (a1.size : Int) 300).toNat).data.toList = 0) :
    Calls Try.prog 4 #[v0, .string a1] w fun x w' => x = .returned (.bool true) ∧ Below w.heap.size w w' := by
  obtain ⟨s, hse⟩ : ∃ s, a1.extract 0 (min (a1.size : Int) 300).toNat = s := ⟨_, rfl⟩
  have hx := str_cut a1 300 (min (a1.size : Int) 300).toNat (by omega)
  rw [hse] at hx hd
  have HSZ := Lib.hid (show s.data.toList.length ≤ 1000000 by have : s.size = s.data.toList.length := (by rw [Array.length_toList]; rfl); omega)
  have HR := Lib.hid hr; clear hr
  have HDE := Lib.hid hd; clear hd
  obtain ⟨n0, s0, t0, xs0, ms0, os0⟩ := p0
  obtain ⟨_, _, _, rfl, ⟨A0, k0, rfl, _⟩, ⟨B0, l0, rfl, _⟩, ⟨C0, m0, rfl, _⟩⟩ := id h0
  dsimp only at *
  obtain ⟨P0, hP0⟩ : ∃ P, P = Pc.cut ⟨n0, s0, t0, xs0, ms0, os0⟩ := ⟨_, rfl⟩
  have hsz0 : Pc.sized P0 := hP0 ▸ Pc.cut_sized _
  have HP0 := Lib.hid hP0; clear hP0
  go_enter Try.func4, Try.ntmps4
  try simp only [List.append_eq, List.cons_append, List.nil_append]
  go_wp2_with fail
  refine name_call fun W0 hW0 => ?_
  have bx0 : Box W0 (w.heap.size) #[.int .i64 n0, .int .i64 s0, .int .i64 t0, .slice A0 xs0.length k0, .slice B0 ms0.length l0, .slice C0 os0.length m0] 26 := hW0 ▸ (Box.new' #[.int .i64 n0, .int .i64 s0, .int .i64 t0, .slice A0 xs0.length k0, .slice B0 ms0.length l0, .slice C0 os0.length m0] 26 (by simp))
  have hB : Below w.heap.size w W0 := hW0 ▸ ((Below.refl _ _).alloc (by first | (simp; done) | (simp; omega)) _)
  have hlo : w.heap.size + 1 ≤ W0.heap.size := hW0 ▸ (by simp)
  clear hW0
  refine (cut6_any _ ⟨n0, s0, t0, xs0, ms0, os0⟩ _ ((h0.below hB (Nat.le_refl _)).widen (Nat.le_refl _) hB.size)).mono ?_
  rw [← HP0.out]
  rintro e v0 ⟨⟨x0, rfl, hp0⟩, hb⟩
  replace bx0 := bx0.next hb
  obtain ⟨_, _, _, rfl, ⟨P03, P0k3, rfl, _⟩, ⟨P04, P0k4, rfl, _⟩, ⟨P05, P0k5, rfl, _⟩⟩ := id hp0
  replace hp0 := hp0.widen (lo' := w.heap.size + 1) hlo (Nat.le_refl _)
  replace hB := hB.trans (hb.mono hB.size)
  replace hlo := Nat.le_trans hlo hb.size
  clear hb
  obtain ⟨c0, c1, c2, c3, c4, c5⟩ := bx0.six
  obtain ⟨f0, f1, f2, f3, f4, f5⟩ := bx0.free
  go_wp2_with fail
  clear c0 c1 c2 c3 c4 c5
  clear f0 f1 f2 f3 f4 f5
  refine name_call fun W hW => ?_
  have qx0 : Box W (w.heap.size) #[.int .i64 P0.node, .int .i64 P0.state, .int .i64 P0.steps, .slice P03 P0.sent.length P0k3, .slice P04 P0.inn.length P0k4, .slice P05 P0.out.length P0k5] 26 := by rw [← hW]; exact six_box bx0
  have qp0 : PieceIs true W (w.heap.size + 1) W.heap.size (.agg #[.int .i64 P0.node, .int .i64 P0.state, .int .i64 P0.steps, .slice P03 P0.sent.length P0k3, .slice P04 P0.inn.length P0k4, .slice P05 P0.out.length P0k5]) P0 := by rw [← hW]; exact hp0.six_far (by omega)
  have qB : Below w.heap.size w W := by rw [← hW]; exact six_below' hB (by omega)
  have qlo : w.heap.size + 1 ≤ W.heap.size := by rw [← hW]; exact Nat.le_trans hlo (Nat.le_of_eq six_size.symm)
  clear bx0 hp0 hB hlo hW
  have bx0 := qx0
  clear qx0
  have hp0 := qp0
  clear qp0
  have hB := qB
  have hlo := qlo
  clear qB qlo
  obtain ⟨W0, rfl⟩ : ∃ x : World, x = W := ⟨_, rfl⟩
  replace hp0 := hp0.zero_
  have hR := HP0.out ▸ HR.out
  have HE1 := Lib.hid (show Pc.err P0 = 4 by simp [Pc.err, hR])
  have HE2 := Lib.hid (show Pc.enc P0 = [] by simp [Pc.enc, hR])
  have HR1 := Lib.hid hR
  clear hR
  refine (encodeq (S := ⟨#[]⟩) hp0 (by rw [HE2.out]) HE1.out).mono ?_
  rintro e w1 ⟨rfl, hb⟩
  replace bx0 := bx0.next hb
  replace hp0 := hp0.next hb
  replace hB := hB.trans (hb.mono hB.size)
  clear hb
  obtain ⟨c0, c1, c2, c3, c4, c5⟩ := bx0.six
  go_wp2_with fail
  clear c0 c1 c2 c3 c4 c5
  refine (rightq hp0 HR1.out).mono ?_
  rintro e w2 ⟨rfl, hb⟩
  replace bx0 := bx0.next hb
  replace hp0 := hp0.next hb
  replace hB := hB.trans (hb.mono hB.size)
  clear hb
  go_wp2_with fail
  refine (decodeq (s := s) (p := Pc.dec s.data.toList) (n := 0) _ rfl HSZ.out rfl HDE.out).mono ?_
  rintro e w3 ⟨⟨X1, x1, X2, x2, X3, x3, rfl, hd⟩, hb⟩
  replace bx0 := bx0.next hb
  replace hp0 := hp0.next hb
  replace hB := hB.trans (hb.mono hB.size)
  clear hb
  obtain ⟨D, hD⟩ : ∃ D, Pc.dec s.data.toList = D := ⟨_, rfl⟩
  have HD := Lib.hid hD
  rw [hD] at hd ⊢
  clear hD
  go_wp2_with fail
  refine name_call fun W2 hW2 => ?_
  have bx9 : Box W2 w3.heap.size #[.int .i64 D.node, .int .i64 D.state, .int .i64 D.steps, .slice X1 D.sent.length x1, .slice X2 D.inn.length x2, .slice X3 D.out.length x3] 26 := hW2 ▸ Box.new _ _ _
  have hb : Below w3.heap.size w3 W2 := hW2 ▸ (Below.refl _ _).alloc (Nat.le_refl _) _
  replace bx0 := bx0.next hb
  replace hp0 := hp0.next hb
  replace hd := hd.next hb
  replace hB := hB.trans (hb.mono hB.size)
  clear hb hW2
  have hrd := HD.out ▸ (Pc.dec_right HDE.out)
  have HRD := Lib.hid hrd
  have b1 : (s.toList == s.toList) = true := by simp
  clear hrd
  refine (encodeq (S := s) (n := 0) hd.zero_ (bytes_of (by simp only [Pc.enc, HRD.out.1, if_true]; exact HRD.out.2)) (by simp [Pc.err, HRD.out.1])).mono ?_
  rintro e w4 ⟨rfl, hb⟩
  replace bx0 := bx0.next hb
  replace hp0 := hp0.next hb
  replace hd := hd.next hb
  replace bx9 := bx9.next hb
  replace hB := hB.trans (hb.mono hB.size)
  clear hb
  obtain ⟨c0, c1, c2, c3, c4, c5⟩ := bx9.six
  go_wp2_with fail
  clear c0 c1 c2 c3 c4 c5
  refine (rightq hd.zero_ HRD.out.1).mono ?_
  rintro e w5 ⟨rfl, hb⟩
  replace bx0 := bx0.next hb
  replace hp0 := hp0.next hb
  replace hd := hd.next hb
  replace bx9 := bx9.next hb
  replace hB := hB.trans (hb.mono hB.size)
  clear hb
  go_wp2_with fail
  refine (fixed6_any _).mono ?_
  rintro e w6 ⟨rfl, hb⟩
  replace bx0 := bx0.next hb
  replace hp0 := hp0.next hb
  replace hd := hd.next hb
  replace bx9 := bx9.next hb
  replace hB := hB.trans (hb.mono hB.size)
  clear hb
  go_wp2_with fail
  go_ret
  exact ⟨rfl, hB⟩

set_option maxRecDepth 100000 in
set_option maxHeartbeats 8000000 in
theorem walk_nn (v0 : Value) (p0 : Pc.Piece) (a1 : ByteArray) (w : World) (h0 : PieceIs false w 0 w.heap.size v0 p0) (hr : Pc.right (Pc.cut p0) = false) (hd : Pc.decE (a1.extract 0 (min (a1.size : Int) 300).toNat).data.toList ≠ 0) :
    Calls Try.prog 4 #[v0, .string a1] w fun x w' => x = .returned (.bool true) ∧ Below w.heap.size w w' := by
  obtain ⟨s, hse⟩ : ∃ s, a1.extract 0 (min (a1.size : Int) 300).toNat = s := ⟨_, rfl⟩
  have hx := str_cut a1 300 (min (a1.size : Int) 300).toNat (by omega)
  rw [hse] at hx hd
  have HSZ := Lib.hid (show s.data.toList.length ≤ 1000000 by have : s.size = s.data.toList.length := (by rw [Array.length_toList]; rfl); omega)
  have HR := Lib.hid hr; clear hr
  have HDE := Lib.hid hd; clear hd
  obtain ⟨n0, s0, t0, xs0, ms0, os0⟩ := p0
  obtain ⟨_, _, _, rfl, ⟨A0, k0, rfl, _⟩, ⟨B0, l0, rfl, _⟩, ⟨C0, m0, rfl, _⟩⟩ := id h0
  dsimp only at *
  obtain ⟨P0, hP0⟩ : ∃ P, P = Pc.cut ⟨n0, s0, t0, xs0, ms0, os0⟩ := ⟨_, rfl⟩
  have hsz0 : Pc.sized P0 := hP0 ▸ Pc.cut_sized _
  have HP0 := Lib.hid hP0; clear hP0
  go_enter Try.func4, Try.ntmps4
  try simp only [List.append_eq, List.cons_append, List.nil_append]
  go_wp2_with fail
  refine name_call fun W0 hW0 => ?_
  have bx0 : Box W0 (w.heap.size) #[.int .i64 n0, .int .i64 s0, .int .i64 t0, .slice A0 xs0.length k0, .slice B0 ms0.length l0, .slice C0 os0.length m0] 26 := hW0 ▸ (Box.new' #[.int .i64 n0, .int .i64 s0, .int .i64 t0, .slice A0 xs0.length k0, .slice B0 ms0.length l0, .slice C0 os0.length m0] 26 (by simp))
  have hB : Below w.heap.size w W0 := hW0 ▸ ((Below.refl _ _).alloc (by first | (simp; done) | (simp; omega)) _)
  have hlo : w.heap.size + 1 ≤ W0.heap.size := hW0 ▸ (by simp)
  clear hW0
  refine (cut6_any _ ⟨n0, s0, t0, xs0, ms0, os0⟩ _ ((h0.below hB (Nat.le_refl _)).widen (Nat.le_refl _) hB.size)).mono ?_
  rw [← HP0.out]
  rintro e v0 ⟨⟨x0, rfl, hp0⟩, hb⟩
  replace bx0 := bx0.next hb
  obtain ⟨_, _, _, rfl, ⟨P03, P0k3, rfl, _⟩, ⟨P04, P0k4, rfl, _⟩, ⟨P05, P0k5, rfl, _⟩⟩ := id hp0
  replace hp0 := hp0.widen (lo' := w.heap.size + 1) hlo (Nat.le_refl _)
  replace hB := hB.trans (hb.mono hB.size)
  replace hlo := Nat.le_trans hlo hb.size
  clear hb
  obtain ⟨c0, c1, c2, c3, c4, c5⟩ := bx0.six
  obtain ⟨f0, f1, f2, f3, f4, f5⟩ := bx0.free
  go_wp2_with fail
  clear c0 c1 c2 c3 c4 c5
  clear f0 f1 f2 f3 f4 f5
  refine name_call fun W hW => ?_
  have qx0 : Box W (w.heap.size) #[.int .i64 P0.node, .int .i64 P0.state, .int .i64 P0.steps, .slice P03 P0.sent.length P0k3, .slice P04 P0.inn.length P0k4, .slice P05 P0.out.length P0k5] 26 := by rw [← hW]; exact six_box bx0
  have qp0 : PieceIs true W (w.heap.size + 1) W.heap.size (.agg #[.int .i64 P0.node, .int .i64 P0.state, .int .i64 P0.steps, .slice P03 P0.sent.length P0k3, .slice P04 P0.inn.length P0k4, .slice P05 P0.out.length P0k5]) P0 := by rw [← hW]; exact hp0.six_far (by omega)
  have qB : Below w.heap.size w W := by rw [← hW]; exact six_below' hB (by omega)
  have qlo : w.heap.size + 1 ≤ W.heap.size := by rw [← hW]; exact Nat.le_trans hlo (Nat.le_of_eq six_size.symm)
  clear bx0 hp0 hB hlo hW
  have bx0 := qx0
  clear qx0
  have hp0 := qp0
  clear qp0
  have hB := qB
  have hlo := qlo
  clear qB qlo
  obtain ⟨W0, rfl⟩ : ∃ x : World, x = W := ⟨_, rfl⟩
  replace hp0 := hp0.zero_
  have hR := HP0.out ▸ HR.out
  have HE1 := Lib.hid (show Pc.err P0 = 4 by simp [Pc.err, hR])
  have HE2 := Lib.hid (show Pc.enc P0 = [] by simp [Pc.enc, hR])
  have HR1 := Lib.hid hR
  clear hR
  refine (encodeq (S := ⟨#[]⟩) hp0 (by rw [HE2.out]) HE1.out).mono ?_
  rintro e w1 ⟨rfl, hb⟩
  replace bx0 := bx0.next hb
  replace hp0 := hp0.next hb
  replace hB := hB.trans (hb.mono hB.size)
  clear hb
  obtain ⟨c0, c1, c2, c3, c4, c5⟩ := bx0.six
  go_wp2_with fail
  clear c0 c1 c2 c3 c4 c5
  refine (rightq hp0 HR1.out).mono ?_
  rintro e w2 ⟨rfl, hb⟩
  replace bx0 := bx0.next hb
  replace hp0 := hp0.next hb
  replace hB := hB.trans (hb.mono hB.size)
  clear hb
  go_wp2_with fail
  refine (decodeq (s := s) (p := Pc.zero) (n := 4) _ rfl HSZ.out (Pc.dec_zero HDE.out).1 (Pc.dec_zero HDE.out).2).mono ?_
  rintro e w3 ⟨⟨X1, x1, X2, x2, X3, x3, rfl, hd⟩, hb⟩
  replace bx0 := bx0.next hb
  replace hp0 := hp0.next hb
  replace hB := hB.trans (hb.mono hB.size)
  clear hb
  dsimp only [Pc.zero, List.length_nil] at hd ⊢
  go_wp2_with fail
  refine name_call fun W2 hW2 => ?_
  have hb : Below w3.heap.size w3 W2 := hW2 ▸ (Below.refl _ _).alloc (Nat.le_refl _) _
  replace bx0 := bx0.next hb
  replace hp0 := hp0.next hb
  replace hd := hd.next hb
  replace hB := hB.trans (hb.mono hB.size)
  clear hb hW2
  refine (sameq hd.zero_ zero_is rfl).mono ?_
  rintro e w4 ⟨rfl, hb⟩
  replace bx0 := bx0.next hb
  replace hp0 := hp0.next hb
  replace hd := hd.next hb
  replace hB := hB.trans (hb.mono hB.size)
  clear hb
  go_wp2_with fail
  refine (fixed6_any _).mono ?_
  rintro e w5 ⟨rfl, hb⟩
  replace bx0 := bx0.next hb
  replace hp0 := hp0.next hb
  replace hd := hd.next hb
  replace hB := hB.trans (hb.mono hB.size)
  clear hb
  go_wp2_with fail
  go_ret
  exact ⟨rfl, hB⟩

theorem walk (v0 : Value) (p0 : Pc.Piece) (a1 : ByteArray) (w : World) (h0 : PieceIs false w 0 w.heap.size v0 p0) :
    Calls Try.prog 4 #[v0, .string a1] w fun x w' => x = .returned (.bool true) ∧ Below w.heap.size w w' := by
  by_cases hd : Pc.decE (a1.extract 0 (min (a1.size : Int) 300).toNat).data.toList = 0
  · cases hr : Pc.right (Pc.cut p0)
    · exact walk_ny v0 p0 a1 w h0 hr hd
    · exact walk_yy v0 p0 a1 w h0 hr hd
  · cases hr : Pc.right (Pc.cut p0)
    · exact walk_nn v0 p0 a1 w h0 hr hd
    · exact walk_yn v0 p0 a1 w h0 hr hd
end Go.Proofs.Ytdfgnmdofjhnkaa.pieceBack
