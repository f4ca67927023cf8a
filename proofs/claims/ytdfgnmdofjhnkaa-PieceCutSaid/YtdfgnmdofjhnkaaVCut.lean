/- PieceCut: the walk. -/
import Derived.Test.YtdfgnmdofjhnkaaPV
import Derived.Test.YtdfgnmdofjhnkaaA7
namespace Go.Proofs.Ytdfgnmdofjhnkaa.pieceCut
open Go.RowKit Go.Proofs.Ytdfgnmdofjhnkaa

theorem extract_take (X : ByteArray) (k : Nat) : (X.extract 0 k).data.toList = X.data.toList.take k := by simp
theorem append_list (X : ByteArray) (l : List UInt8) : (X ++ ByteArray.mk l.toArray).data.toList = X.data.toList ++ l := by simp

set_option maxRecDepth 100000 in
set_option maxHeartbeats 8000000 in
theorem walk_y (v0 : Value) (p0 : Pc.Piece) (a1 a2 : Int) (hw1 : 0 ≤ a1 ∧ a1 ≤ 65535) (hw2 : 0 ≤ a2 ∧ a2 ≤ 255) (w : World) (h0 : PieceIs false w 0 w.heap.size v0 p0) (hr : Pc.right (Pc.cut p0) = true) :
    Calls Try.prog 7 #[v0, .int .u16 a1, .int .u8 a2] w fun x w' => x = .returned (.bool true) ∧ Below w.heap.size w w' := by
  have _h := hw1; have _h2 := hw2
  clear _h _h2
  have HR := Lib.hid hr; clear hr
  obtain ⟨n0, s0, t0, xs0, ms0, os0⟩ := p0
  obtain ⟨_, _, _, rfl, ⟨A0, k0, rfl, _⟩, ⟨B0, l0, rfl, _⟩, ⟨C0, m0, rfl, _⟩⟩ := id h0
  dsimp only at *
  obtain ⟨P0, hP0⟩ : ∃ P, P = Pc.cut ⟨n0, s0, t0, xs0, ms0, os0⟩ := ⟨_, rfl⟩
  have hsz0 : Pc.sized P0 := hP0 ▸ Pc.cut_sized _
  have HP0 := Lib.hid hP0; clear hP0
  go_enter Try.func7, Try.ntmps7
  try simp only [List.append_eq, List.cons_append, List.nil_append]
  go_wp2_with fail
  refine name_call fun W0 hW0 => ?_
  have bx0 : Box W0 (w.heap.size) #[.int .i64 n0, .int .i64 s0, .int .i64 t0, .slice A0 xs0.length k0, .slice B0 ms0.length l0, .slice C0 os0.length m0] 26 := hW0 ▸ (Box.new' #[.int .i64 n0, .int .i64 s0, .int .i64 t0, .slice A0 xs0.length k0, .slice B0 ms0.length l0, .slice C0 os0.length m0] 26 (by simp))
  have hB : Below w.heap.size w W0 := hW0 ▸ ((Below.refl _ _).alloc (by first | (simp; done) | (simp; omega)) _)
  have hlo : w.heap.size + 1 ≤ W0.heap.size := hW0 ▸ (by simp)
  clear hW0
  refine (cut6_any _ ⟨n0, s0, t0, xs0, ms0, os0⟩ _ ((h0.below hB (Nat.le_refl _)).widen (Nat.le_refl _) hB.size)).mono ?_
  rw [← HP0.out]
  rintro e v0 ⟨⟨x0, rfl, hp0⟩, hb⟩
  replace bx0 := bx0.next hb
  obtain ⟨_, _, _, rfl, ⟨P03, P0k3, rfl, _⟩, ⟨P04, P0k4, rfl, _⟩, ⟨P05, P0k5, rfl, _⟩⟩ := id hp0
  replace hp0 := hp0.widen (lo' := w.heap.size + 1) hlo (Nat.le_refl _)
  replace hB := hB.trans (hb.mono hB.size)
  replace hlo := Nat.le_trans hlo hb.size
  clear hb
  obtain ⟨c0, c1, c2, c3, c4, c5⟩ := bx0.six
  obtain ⟨f0, f1, f2, f3, f4, f5⟩ := bx0.free
  go_wp2_with fail
  clear c0 c1 c2 c3 c4 c5
  clear f0 f1 f2 f3 f4 f5
  refine name_call fun W hW => ?_
  have qx0 : Box W (w.heap.size) #[.int .i64 P0.node, .int .i64 P0.state, .int .i64 P0.steps, .slice P03 P0.sent.length P0k3, .slice P04 P0.inn.length P0k4, .slice P05 P0.out.length P0k5] 26 := by rw [← hW]; exact six_box bx0
  have qp0 : PieceIs true W (w.heap.size + 1) W.heap.size (.agg #[.int .i64 P0.node, .int .i64 P0.state, .int .i64 P0.steps, .slice P03 P0.sent.length P0k3, .slice P04 P0.inn.length P0k4, .slice P05 P0.out.length P0k5]) P0 := by rw [← hW]; exact hp0.six_far (by omega)
  have qB : Below w.heap.size w W := by rw [← hW]; exact six_below' hB (by omega)
  have qlo : w.heap.size + 1 ≤ W.heap.size := by rw [← hW]; exact Nat.le_trans hlo (Nat.le_of_eq six_size.symm)
  clear bx0 hp0 hB hlo hW
  have bx0 := qx0
  clear qx0
  have hp0 := qp0
  clear qp0
  have hB := qB
  have hlo := qlo
  clear qB qlo
  obtain ⟨W0, rfl⟩ : ∃ x : World, x = W := ⟨_, rfl⟩
  replace hp0 := hp0.zero_
  have hR := HP0.out ▸ HR.out
  have HE1 := Lib.hid (show Pc.err P0 = 0 by simp [Pc.err, hR])
  obtain ⟨X, hX⟩ : ∃ X, ByteArray.mk (Pc.enc P0).toArray = X := ⟨_, rfl⟩
  have HXL := Lib.hid (show X.data.toList = W.puts (Pc.nums P0) by rw [← hX]; simp [Pc.enc, hR])
  have hxs : X.size = (W.puts (Pc.nums P0)).length := by rw [← hX]; simp [Pc.enc, hR, ByteArray.size]
  have hxp : 0 < X.size := by rw [hxs]; exact Pc.puts_pos P0
  have hxm : X.size ≤ 1000000 := by have := enc_len P0; simp [Pc.enc, hR] at this; omega
  have HX := Lib.hid hX
  have HXS := Lib.hid hxs
  clear hX hxs
  have x0 : ((X.size : Int) == 0) = false := beq_eq_false_iff_ne.2 (by omega)
  have x1 : ¬ (X.size : Int) = 0 := by omega
  obtain ⟨k, hk⟩ : ∃ k : Nat, a1.tmod (X.size : Int) = (k : Int) := ⟨(a1.tmod (X.size : Int)).toNat, (Int.toNat_of_nonneg (Int.tmod_nonneg _ hw1.1)).symm⟩
  have hkl : k < X.size := by have := Int.tmod_lt_of_pos a1 (show (0 : Int) < (X.size : Int) by omega); omega
  have HK := Lib.hid hk
  have k0 : (0 : Int) ≤ (k : Int) := by omega
  have k1 : (k : Int) ≤ (X.size : Int) := by omega
  have k2 : (k : Int).toNat = k := by omega
  have hpl := HXS.out
  have hdk := Pc.decE_take hR (k := k) (by omega)
  have hdm := Pc.decE_more hR (UInt8.ofNat a2.toNat)
  have hc : ((UInt8.ofNat a2.toNat).toNat : Int) = a2 := by simp; omega
  have HR1 := Lib.hid hR
  clear hpl
  have hpl : (W.puts (Pc.nums P0)).length ≤ 40000 := by have := W.puts_len (Pc.nums P0); have := Pc.nums_len (Pc.small_of hR); omega
  clear hR x1
  refine (encodeq hp0 HX.out HE1.out).mono ?_
  rintro e w1 ⟨rfl, hb⟩
  replace bx0 := bx0.next hb
  replace hp0 := hp0.next hb
  replace hB := hB.trans (hb.mono hB.size)
  clear hb
  go_wp2_with fail
  refine (decodeq (s := X.extract 0 k) (l := (W.puts (Pc.nums P0)).take k) (p := Pc.zero) (n := 4) _ (by rw [← HXL.out]; exact extract_take X k) (by simp; omega) (Pc.dec_zero (by rw [hdk]; decide)).1 hdk).mono ?_
  rintro e w2 ⟨⟨X1, x1, X2, x2, X3, x3, rfl, hd⟩, hb⟩
  replace bx0 := bx0.next hb
  replace hp0 := hp0.next hb
  replace hB := hB.trans (hb.mono hB.size)
  clear hb
  dsimp only [Pc.zero, List.length_nil] at hd ⊢
  clear hd
  have rs := run_byte_string' (w2.alloc (.cells #[.int .i64 0, .int .i64 0, .int .i64 0, .slice X1 0 x1, .slice X2 0 x2, .slice X3 0 x3] 26)) (UInt8.ofNat a2.toNat) a2 hc
  rw [World.size_alloc] at rs
  go_wp2_with fail
  clear rs
  refine name_call fun W2 hW2 => ?_
  have hb : Below w2.heap.size w2 W2 := hW2 ▸ ((Below.refl _ _).alloc (Nat.le_refl _) _).alloc (by simp) _
  replace bx0 := bx0.next hb
  replace hp0 := hp0.next hb
  replace hB := hB.trans (hb.mono hB.size)
  clear hb hW2
  refine (decodeq (l := W.puts (Pc.nums P0) ++ [UInt8.ofNat a2.toNat]) (p := Pc.zero) (n := 4) _ (by rw [← HXL.out]; exact append_list X _) (by simp; omega) (Pc.dec_zero (by rw [hdm]; decide)).1 hdm).mono ?_
  rintro e w3 ⟨⟨Y1, y1, Y2, y2, Y3, y3, rfl, hd⟩, hb⟩
  replace bx0 := bx0.next hb
  replace hp0 := hp0.next hb
  replace hB := hB.trans (hb.mono hB.size)
  clear hb
  dsimp only [Pc.zero, List.length_nil] at hd ⊢
  clear hd
  go_wp2_with fail
  refine name_call fun W3 hW3 => ?_
  have hb : Below w3.heap.size w3 W3 := hW3 ▸ (Below.refl _ _).alloc (Nat.le_refl _) _
  replace bx0 := bx0.next hb
  replace hp0 := hp0.next hb
  replace hB := hB.trans (hb.mono hB.size)
  clear hb hW3
  refine (fixed6_any _).mono ?_
  rintro e w4 ⟨rfl, hb⟩
  replace bx0 := bx0.next hb
  replace hp0 := hp0.next hb
  replace hB := hB.trans (hb.mono hB.size)
  clear hb
  go_wp2_with fail
  go_ret
  exact ⟨rfl, hB⟩

set_option maxRecDepth 100000 in
set_option maxHeartbeats 8000000 in
theorem walk_n (v0 : Value) (p0 : Pc.Piece) (a1 a2 : Int) (hw1 : 0 ≤ a1 ∧ a1 ≤ 65535) (hw2 : 0 ≤ a2 ∧ a2 ≤ 255) (w : World) (h0 : PieceIs false w 0 w.heap.size v0 p0) (hr : Pc.right (Pc.cut p0) = false) :
    Calls Try.prog 7 #[v0, .int .u16 a1, .int .u8 a2] w fun x w' => x = .returned (.bool true) ∧ Below w.heap.size w w' := by
  have _h := hw1; have _h2 := hw2
  clear _h _h2
  have HR := Lib.hid hr; clear hr
  obtain ⟨n0, s0, t0, xs0, ms0, os0⟩ := p0
  obtain ⟨_, _, _, rfl, ⟨A0, k0, rfl, _⟩, ⟨B0, l0, rfl, _⟩, ⟨C0, m0, rfl, _⟩⟩ := id h0
  dsimp only at *
  obtain ⟨P0, hP0⟩ : ∃ P, P = Pc.cut ⟨n0, s0, t0, xs0, ms0, os0⟩ := ⟨_, rfl⟩
  have hsz0 : Pc.sized P0 := hP0 ▸ Pc.cut_sized _
  have HP0 := Lib.hid hP0; clear hP0
  go_enter Try.func7, Try.ntmps7
  try simp only [List.append_eq, List.cons_append, List.nil_append]
  go_wp2_with fail
  refine name_call fun W0 hW0 => ?_
  have bx0 : Box W0 (w.heap.size) #[.int .i64 n0, .int .i64 s0, .int .i64 t0, .slice A0 xs0.length k0, .slice B0 ms0.length l0, .slice C0 os0.length m0] 26 := hW0 ▸ (Box.new' #[.int .i64 n0, .int .i64 s0, .int .i64 t0, .slice A0 xs0.length k0, .slice B0 ms0.length l0, .slice C0 os0.length m0] 26 (by simp))
  have hB : Below w.heap.size w W0 := hW0 ▸ ((Below.refl _ _).alloc (by first | (simp; done) | (simp; omega)) _)
  have hlo : w.heap.size + 1 ≤ W0.heap.size := hW0 ▸ (by simp)
  clear hW0
  refine (cut6_any _ ⟨n0, s0, t0, xs0, ms0, os0⟩ _ ((h0.below hB (Nat.le_refl _)).widen (Nat.le_refl _) hB.size)).mono ?_
  rw [← HP0.out]
  rintro e v0 ⟨⟨x0, rfl, hp0⟩, hb⟩
  replace bx0 := bx0.next hb
  obtain ⟨_, _, _, rfl, ⟨P03, P0k3, rfl, _⟩, ⟨P04, P0k4, rfl, _⟩, ⟨P05, P0k5, rfl, _⟩⟩ := id hp0
  replace hp0 := hp0.widen (lo' := w.heap.size + 1) hlo (Nat.le_refl _)
  replace hB := hB.trans (hb.mono hB.size)
  replace hlo := Nat.le_trans hlo hb.size
  clear hb
  obtain ⟨c0, c1, c2, c3, c4, c5⟩ := bx0.six
  obtain ⟨f0, f1, f2, f3, f4, f5⟩ := bx0.free
  go_wp2_with fail
  clear c0 c1 c2 c3 c4 c5
  clear f0 f1 f2 f3 f4 f5
  refine name_call fun W hW => ?_
  have qx0 : Box W (w.heap.size) #[.int .i64 P0.node, .int .i64 P0.state, .int .i64 P0.steps, .slice P03 P0.sent.length P0k3, .slice P04 P0.inn.length P0k4, .slice P05 P0.out.length P0k5] 26 := by rw [← hW]; exact six_box bx0
  have qp0 : PieceIs true W (w.heap.size + 1) W.heap.size (.agg #[.int .i64 P0.node, .int .i64 P0.state, .int .i64 P0.steps, .slice P03 P0.sent.length P0k3, .slice P04 P0.inn.length P0k4, .slice P05 P0.out.length P0k5]) P0 := by rw [← hW]; exact hp0.six_far (by omega)
  have qB : Below w.heap.size w W := by rw [← hW]; exact six_below' hB (by omega)
  have qlo : w.heap.size + 1 ≤ W.heap.size := by rw [← hW]; exact Nat.le_trans hlo (Nat.le_of_eq six_size.symm)
  clear bx0 hp0 hB hlo hW
  have bx0 := qx0
  clear qx0
  have hp0 := qp0
  clear qp0
  have hB := qB
  have hlo := qlo
  clear qB qlo
  obtain ⟨W0, rfl⟩ : ∃ x : World, x = W := ⟨_, rfl⟩
  replace hp0 := hp0.zero_
  have hR := HP0.out ▸ HR.out
  have HE1 := Lib.hid (show Pc.err P0 = 4 by simp [Pc.err, hR])
  have HE2 := Lib.hid (show Pc.enc P0 = [] by simp [Pc.enc, hR])
  have HR1 := Lib.hid hR
  clear hR
  refine (encodeq (S := ⟨#[]⟩) hp0 (by rw [HE2.out]) HE1.out).mono ?_
  rintro e w1 ⟨rfl, hb⟩
  replace bx0 := bx0.next hb
  replace hp0 := hp0.next hb
  replace hB := hB.trans (hb.mono hB.size)
  clear hb
  go_wp2_with fail
  refine (fixed6_any _).mono ?_
  rintro e w2 ⟨rfl, hb⟩
  replace bx0 := bx0.next hb
  replace hp0 := hp0.next hb
  replace hB := hB.trans (hb.mono hB.size)
  clear hb
  go_wp2_with fail
  go_ret
  exact ⟨rfl, hB⟩

theorem walk (v0 : Value) (p0 : Pc.Piece) (a1 : Int) (w1 : (Lit.int .u16 a1).wf = true) (a2 : Int) (w2 : (Lit.int .u8 a2).wf = true) (w : World) (h0 : PieceIs false w 0 w.heap.size v0 p0) :
    Calls Try.prog 7 #[v0, .int .u16 a1, .int .u8 a2] w fun x w' => x = .returned (.bool true) ∧ Below w.heap.size w w' := by
  have hw1 : 0 ≤ a1 ∧ a1 ≤ 65535 := by simpa [Lit.wf, IntKind.min, IntKind.max, IntKind.signed, IntKind.bits] using w1
  have hw2 : 0 ≤ a2 ∧ a2 ≤ 255 := by simpa [Lit.wf, IntKind.min, IntKind.max, IntKind.signed, IntKind.bits] using w2
  cases hr : Pc.right (Pc.cut p0)
  · exact walk_n v0 p0 a1 a2 hw1 hw2 w h0 hr
  · exact walk_y v0 p0 a1 a2 hw1 hw2 w h0 hr
end Go.Proofs.Ytdfgnmdofjhnkaa.pieceCut
