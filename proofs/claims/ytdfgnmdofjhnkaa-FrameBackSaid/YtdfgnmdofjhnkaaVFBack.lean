/- FrameBack: the walk. -/
import Derived.Test.YtdfgnmdofjhnkaaG20
namespace Go.Proofs.Ytdfgnmdofjhnkaa.frameBack
open Go.RowKit Go.Proofs.Ytdfgnmdofjhnkaa

set_option maxRecDepth 100000 in
set_option maxHeartbeats 8000000 in
theorem walk_yy (v0 : Value) (f0 : Fr) (a1 : ByteArray) (w : World) (h0 : FrIs false w 0 w.heap.size v0 f0) (hr : Fr.right (Fr.cut f0) = true) (hd : Fr.decE (a1.extract 0 (min (a1.size : Int) 300).toNat).data.toList = 0) :
    Calls Try.prog 10 #[v0, .string a1] w fun x w' => x = .returned (.bool true) ∧ Below w.heap.size w w' := by
  obtain ⟨s, hse⟩ : ∃ s, a1.extract 0 (min (a1.size : Int) 300).toNat = s := ⟨_, rfl⟩
  have hx := str_cut a1 300 (min (a1.size : Int) 300).toNat (by omega)
  rw [hse] at hx hd
  have HSZ := Lib.hid (show s.data.toList.length ≤ 1000000 by have : s.size = s.data.toList.length := (by rw [Array.length_toList]; rfl); omega)
  have HR := Lib.hid hr; clear hr
  have HDE := Lib.hid hd; clear hd
  obtain ⟨a0A, a0B, a0k, a0l, rfl, _, _⟩ := id h0
  obtain ⟨P0, hP0⟩ : ∃ P, Fr.cut f0 = P := ⟨_, rfl⟩
  have hs0 : P0.Small := hP0 ▸ Fr.cut_small _
  have HP0 := Lib.hid hP0; have HS0 := Lib.hid hs0; clear hP0 hs0
  go_enter Try.func10, Try.ntmps10
  try simp only [List.append_eq, List.cons_append, List.nil_append]
  go_wp2_with fail
  refine name_call fun W0 hW0 => ?_
  have bx0 : Box W0 (w.heap.size) #[.int .i64 f0.kind, .int .i64 f0.epoch, .int .i64 f0.seq, .int .i64 f0.letter, .slice a0A f0.pieces.length a0k, .int .i64 f0.init, .int .i64 f0.num, .int .i64 f0.count, .slice a0B f0.path.length a0l] 58 := hW0 ▸ (Box.new' #[.int .i64 f0.kind, .int .i64 f0.epoch, .int .i64 f0.seq, .int .i64 f0.letter, .slice a0A f0.pieces.length a0k, .int .i64 f0.init, .int .i64 f0.num, .int .i64 f0.count, .slice a0B f0.path.length a0l] 58 (by simp))
  have hB : Below w.heap.size w W0 := hW0 ▸ ((Below.refl _ _).alloc (by first | (simp; done) | (simp; omega)) _)
  have hlo : w.heap.size + 1 ≤ W0.heap.size := hW0 ▸ (by simp)
  clear hW0
  refine (ccut (f := P0) ((h0.keep fun b _ q => hB.block b q).widen (Nat.le_refl _) hB.size) HP0.out).mono ?_
  rintro e v0 ⟨⟨P0A, P0k, P0B, P0l, rfl, hp0⟩, hb⟩
  replace bx0 := bx0.next hb
  replace hp0 := hp0.widen (lo' := w.heap.size + 1) hlo (Nat.le_refl _)
  replace hB := hB.trans (hb.mono hB.size)
  replace hlo := Nat.le_trans hlo hb.size
  clear hb
  obtain ⟨c0, c1, c2, c3, c4, c5, c6, c7, c8⟩ := nine_cells bx0
  obtain ⟨f0, f1, f2, f3, f4, f5, f6, f7, f8⟩ := nine_free bx0
  go_wp2_with fail
  clear c0 c1 c2 c3 c4 c5 c6 c7 c8
  clear f0 f1 f2 f3 f4 f5 f6 f7 f8
  refine name_call fun W hW => ?_
  have qx0 : Box W (w.heap.size) #[.int .i64 P0.kind, .int .i64 P0.epoch, .int .i64 P0.seq, .int .i64 P0.letter, .slice P0A P0.pieces.length P0k, .int .i64 P0.init, .int .i64 P0.num, .int .i64 P0.count, .slice P0B P0.path.length P0l] 58 := by rw [← hW]; exact nine_box bx0
  have qp0 : FrIs false W (w.heap.size + 1) W.heap.size (.agg #[.int .i64 P0.kind, .int .i64 P0.epoch, .int .i64 P0.seq, .int .i64 P0.letter, .slice P0A P0.pieces.length P0k, .int .i64 P0.init, .int .i64 P0.num, .int .i64 P0.count, .slice P0B P0.path.length P0l]) P0 := by rw [← hW]; exact hp0.nine_far (by omega)
  have qB : Below w.heap.size w W := by rw [← hW]; exact nine_below hB (by omega)
  have qlo : w.heap.size + 1 ≤ W.heap.size := by rw [← hW]; exact Nat.le_trans hlo (Nat.le_of_eq nine_size.symm)
  clear bx0 hp0 hB hlo hW
  have bx0 := qx0
  clear qx0
  have hp0 := qp0
  clear qp0
  have hB := qB
  have hlo := qlo
  clear qB qlo
  obtain ⟨W0, rfl⟩ : ∃ x : World, x = W := ⟨_, rfl⟩
  replace hp0 := hp0.zero_
  have hR := HP0.out ▸ HR.out
  have HE1 := Lib.hid (Fr.enc_yes hR)
  obtain ⟨X, hX⟩ : ∃ X, ByteArray.mk (Fr.enc P0).toArray = X := ⟨_, rfl⟩
  have HXL := Lib.hid (show X.data.toList = Fr.enc P0 by rw [← hX])
  have HX := Lib.hid hX
  clear hX
  have HR1 := Lib.hid hR
  clear hR
  obtain ⟨c0, c1, c2, c3, c4, c5, c6, c7, c8⟩ := nine_cells bx0
  try rw [hse]
  refine (cenc hp0 HX.out HE1.out.1).mono ?_
  rintro e w1 ⟨rfl, hb⟩
  replace bx0 := bx0.next hb
  replace hp0 := hp0.next hb
  replace hB := hB.trans (hb.mono hB.size)
  clear hb
  obtain ⟨d0, d1, d2, d3, d4, d5, d6, d7, d8⟩ := nine_cells bx0
  go_wp2_with fail
  clear d0 d1 d2 d3 d4 d5 d6 d7 d8
  refine (cright hp0 HR1.out).mono ?_
  rintro e w2 ⟨rfl, hb⟩
  replace bx0 := bx0.next hb
  replace hp0 := hp0.next hb
  replace hB := hB.trans (hb.mono hB.size)
  clear hb
  go_wp2_with fail
  refine (cdec (s := X) (l := Fr.enc P0) (f := P0) (n := 0) _ HXL.out (Fr.enc_len P0) (Fr.dec_enc HR1.out)).mono ?_
  rintro e w3 ⟨⟨XA, Xk, XB, Xl, rfl, hx⟩, hb⟩
  replace bx0 := bx0.next hb
  replace hp0 := hp0.next hb
  replace hB := hB.trans (hb.mono hB.size)
  clear hb
  obtain ⟨d0, d1, d2, d3, d4, d5, d6, d7, d8⟩ := nine_cells bx0
  have ne2 := bx0.lt
  go_wp2_with fail
  clear ne2
  clear d0 d1 d2 d3 d4 d5 d6 d7 d8
  refine name_call fun W1 hW1 => ?_
  have bx7 : Box W1 w3.heap.size #[.int .i64 P0.kind, .int .i64 P0.epoch, .int .i64 P0.seq, .int .i64 P0.letter, .slice XA P0.pieces.length Xk, .int .i64 P0.init, .int .i64 P0.num, .int .i64 P0.count, .slice XB P0.path.length Xl] 58 := hW1 ▸ Box.new _ _ _
  have hb : Below w3.heap.size w3 W1 := hW1 ▸ (Below.refl _ _).alloc (Nat.le_refl _) _
  replace bx0 := bx0.next hb
  replace hp0 := hp0.next hb
  replace hx := hx.next hb
  replace hB := hB.trans (hb.mono hB.size)
  clear hb hW1
  refine (csame hx hp0 (decide_eq_true rfl)).mono ?_
  rintro e w4 ⟨rfl, hb⟩
  replace bx0 := bx0.next hb
  replace hp0 := hp0.next hb
  replace hx := hx.next hb
  replace hB := hB.trans (hb.mono hB.size)
  clear hb
  go_wp2_with fail
  clear hx bx7
  refine (cdec (s := s) (f := Fr.dec s.data.toList) (n := 0) _ rfl HSZ.out ⟨rfl, HDE.out⟩).mono ?_
  rintro e w5 ⟨⟨YA, Yk, YB, Yl, rfl, hd⟩, hb⟩
  replace bx0 := bx0.next hb
  replace hp0 := hp0.next hb
  replace hB := hB.trans (hb.mono hB.size)
  clear hb
  obtain ⟨D, hD⟩ : ∃ D, Fr.dec s.data.toList = D := ⟨_, rfl⟩
  have HD := Lib.hid hD
  rw [hD] at hd ⊢
  clear hD
  go_wp2_with fail
  refine name_call fun W2 hW2 => ?_
  have bx9 : Box W2 w5.heap.size #[.int .i64 D.kind, .int .i64 D.epoch, .int .i64 D.seq, .int .i64 D.letter, .slice YA D.pieces.length Yk, .int .i64 D.init, .int .i64 D.num, .int .i64 D.count, .slice YB D.path.length Yl] 58 := hW2 ▸ Box.new _ _ _
  have hb : Below w5.heap.size w5 W2 := hW2 ▸ (Below.refl _ _).alloc (Nat.le_refl _) _
  replace bx0 := bx0.next hb
  replace hp0 := hp0.next hb
  replace hd := hd.next hb
  replace hB := hB.trans (hb.mono hB.size)
  clear hb hW2
  have hrd := HD.out ▸ (Fr.dec_right HDE.out)
  have HRD := Lib.hid hrd
  have b1 : (s.toList == s.toList) = true := by simp
  clear hrd
  refine (cenc (S := s) (n := 0) hd (bytes_of (by rw [(Fr.enc_yes HRD.out.1).2]; exact HRD.out.2)) (Fr.enc_yes HRD.out.1).1).mono ?_
  rintro e w6 ⟨rfl, hb⟩
  replace bx0 := bx0.next hb
  replace hp0 := hp0.next hb
  replace hd := hd.next hb
  replace bx9 := bx9.next hb
  replace hB := hB.trans (hb.mono hB.size)
  clear hb
  obtain ⟨d0, d1, d2, d3, d4, d5, d6, d7, d8⟩ := nine_cells bx9
  go_wp2_with fail
  clear d0 d1 d2 d3 d4 d5 d6 d7 d8
  refine (cright hd HRD.out.1).mono ?_
  rintro e w7 ⟨rfl, hb⟩
  replace bx0 := bx0.next hb
  replace hp0 := hp0.next hb
  replace hd := hd.next hb
  replace bx9 := bx9.next hb
  replace hB := hB.trans (hb.mono hB.size)
  clear hb
  go_wp2_with fail
  refine (fixed7_any _).mono ?_
  rintro e w8 ⟨rfl, hb⟩
  replace bx0 := bx0.next hb
  replace hp0 := hp0.next hb
  replace hd := hd.next hb
  replace bx9 := bx9.next hb
  replace hB := hB.trans (hb.mono hB.size)
  clear hb
  go_wp2_with fail
  go_ret
  exact ⟨rfl, hB⟩

set_option maxRecDepth 100000 in
set_option maxHeartbeats 8000000 in
theorem walk_yn (v0 : Value) (f0 : Fr) (a1 : ByteArray) (w : World) (h0 : FrIs false w 0 w.heap.size v0 f0) (hr : Fr.right (Fr.cut f0) = true) (hd : Fr.decE (a1.extract 0 (min (a1.size : Int) 300).toNat).data.toList ≠ 0) :
    Calls Try.prog 10 #[v0, .string a1] w fun x w' => x = .returned (.bool true) ∧ Below w.heap.size w w' := by
  obtain ⟨s, hse⟩ : ∃ s, a1.extract 0 (min (a1.size : Int) 300).toNat = s := ⟨_, rfl⟩
  have hx := str_cut a1 300 (min (a1.size : Int) 300).toNat (by omega)
  rw [hse] at hx hd
  have HSZ := Lib.hid (show s.data.toList.length ≤ 1000000 by have : s.size = s.data.toList.length := (by rw [Array.length_toList]; rfl); omega)
  have HR := Lib.hid hr; clear hr
  have HDE := Lib.hid hd; clear hd
  obtain ⟨a0A, a0B, a0k, a0l, rfl, _, _⟩ := id h0
  obtain ⟨P0, hP0⟩ : ∃ P, Fr.cut f0 = P := ⟨_, rfl⟩
  have hs0 : P0.Small := hP0 ▸ Fr.cut_small _
  have HP0 := Lib.hid hP0; have HS0 := Lib.hid hs0; clear hP0 hs0
  go_enter Try.func10, Try.ntmps10
  try simp only [List.append_eq, List.cons_append, List.nil_append]
  go_wp2_with fail
  refine name_call fun W0 hW0 => ?_
  have bx0 : Box W0 (w.heap.size) #[.int .i64 f0.kind, .int .i64 f0.epoch, .int .i64 f0.seq, .int .i64 f0.letter, .slice a0A f0.pieces.length a0k, .int .i64 f0.init, .int .i64 f0.num, .int .i64 f0.count, .slice a0B f0.path.length a0l] 58 := hW0 ▸ (Box.new' #[.int .i64 f0.kind, .int .i64 f0.epoch, .int .i64 f0.seq, .int .i64 f0.letter, .slice a0A f0.pieces.length a0k, .int .i64 f0.init, .int .i64 f0.num, .int .i64 f0.count, .slice a0B f0.path.length a0l] 58 (by simp))
  have hB : Below w.heap.size w W0 := hW0 ▸ ((Below.refl _ _).alloc (by first | (simp; done) | (simp; omega)) _)
  have hlo : w.heap.size + 1 ≤ W0.heap.size := hW0 ▸ (by simp)
  clear hW0
  refine (ccut (f := P0) ((h0.keep fun b _ q => hB.block b q).widen (Nat.le_refl _) hB.size) HP0.out).mono ?_
  rintro e v0 ⟨⟨P0A, P0k, P0B, P0l, rfl, hp0⟩, hb⟩
  replace bx0 := bx0.next hb
  replace hp0 := hp0.widen (lo' := w.heap.size + 1) hlo (Nat.le_refl _)
  replace hB := hB.trans (hb.mono hB.size)
  replace hlo := Nat.le_trans hlo hb.size
  clear hb
  obtain ⟨c0, c1, c2, c3, c4, c5, c6, c7, c8⟩ := nine_cells bx0
  obtain ⟨f0, f1, f2, f3, f4, f5, f6, f7, f8⟩ := nine_free bx0
  go_wp2_with fail
  clear c0 c1 c2 c3 c4 c5 c6 c7 c8
  clear f0 f1 f2 f3 f4 f5 f6 f7 f8
  refine name_call fun W hW => ?_
  have qx0 : Box W (w.heap.size) #[.int .i64 P0.kind, .int .i64 P0.epoch, .int .i64 P0.seq, .int .i64 P0.letter, .slice P0A P0.pieces.length P0k, .int .i64 P0.init, .int .i64 P0.num, .int .i64 P0.count, .slice P0B P0.path.length P0l] 58 := by rw [← hW]; exact nine_box bx0
  have qp0 : FrIs false W (w.heap.size + 1) W.heap.size (.agg #[.int .i64 P0.kind, .int .i64 P0.epoch, .int .i64 P0.seq, .int .i64 P0.letter, .slice P0A P0.pieces.length P0k, .int .i64 P0.init, .int .i64 P0.num, .int .i64 P0.count, .slice P0B P0.path.length P0l]) P0 := by rw [← hW]; exact hp0.nine_far (by omega)
  have qB : Below w.heap.size w W := by rw [← hW]; exact nine_below hB (by omega)
  have qlo : w.heap.size + 1 ≤ W.heap.size := by rw [← hW]; exact Nat.le_trans hlo (Nat.le_of_eq nine_size.symm)
  clear bx0 hp0 hB hlo hW
  have bx0 := qx0
  clear qx0
  have hp0 := qp0
  clear qp0
  have hB := qB
  have hlo := qlo
  clear qB qlo
  obtain ⟨W0, rfl⟩ : ∃ x : World, x = W := ⟨_, rfl⟩
  replace hp0 := hp0.zero_
  have hR := HP0.out ▸ HR.out
  have HE1 := Lib.hid (Fr.enc_yes hR)
  obtain ⟨X, hX⟩ : ∃ X, ByteArray.mk (Fr.enc P0).toArray = X := ⟨_, rfl⟩
  have HXL := Lib.hid (show X.data.toList = Fr.enc P0 by rw [← hX])
  have HX := Lib.hid hX
  clear hX
  have HR1 := Lib.hid hR
  clear hR
  obtain ⟨c0, c1, c2, c3, c4, c5, c6, c7, c8⟩ := nine_cells bx0
  try rw [hse]
  refine (cenc hp0 HX.out HE1.out.1).mono ?_
  rintro e w1 ⟨rfl, hb⟩
  replace bx0 := bx0.next hb
  replace hp0 := hp0.next hb
  replace hB := hB.trans (hb.mono hB.size)
  clear hb
  obtain ⟨d0, d1, d2, d3, d4, d5, d6, d7, d8⟩ := nine_cells bx0
  go_wp2_with fail
  clear d0 d1 d2 d3 d4 d5 d6 d7 d8
  refine (cright hp0 HR1.out).mono ?_
  rintro e w2 ⟨rfl, hb⟩
  replace bx0 := bx0.next hb
  replace hp0 := hp0.next hb
  replace hB := hB.trans (hb.mono hB.size)
  clear hb
  go_wp2_with fail
  refine (cdec (s := X) (l := Fr.enc P0) (f := P0) (n := 0) _ HXL.out (Fr.enc_len P0) (Fr.dec_enc HR1.out)).mono ?_
  rintro e w3 ⟨⟨XA, Xk, XB, Xl, rfl, hx⟩, hb⟩
  replace bx0 := bx0.next hb
  replace hp0 := hp0.next hb
  replace hB := hB.trans (hb.mono hB.size)
  clear hb
  obtain ⟨d0, d1, d2, d3, d4, d5, d6, d7, d8⟩ := nine_cells bx0
  have ne2 := bx0.lt
  go_wp2_with fail
  clear ne2
  clear d0 d1 d2 d3 d4 d5 d6 d7 d8
  refine name_call fun W1 hW1 => ?_
  have bx7 : Box W1 w3.heap.size #[.int .i64 P0.kind, .int .i64 P0.epoch, .int .i64 P0.seq, .int .i64 P0.letter, .slice XA P0.pieces.length Xk, .int .i64 P0.init, .int .i64 P0.num, .int .i64 P0.count, .slice XB P0.path.length Xl] 58 := hW1 ▸ Box.new _ _ _
  have hb : Below w3.heap.size w3 W1 := hW1 ▸ (Below.refl _ _).alloc (Nat.le_refl _) _
  replace bx0 := bx0.next hb
  replace hp0 := hp0.next hb
  replace hx := hx.next hb
  replace hB := hB.trans (hb.mono hB.size)
  clear hb hW1
  refine (csame hx hp0 (decide_eq_true rfl)).mono ?_
  rintro e w4 ⟨rfl, hb⟩
  replace bx0 := bx0.next hb
  replace hp0 := hp0.next hb
  replace hx := hx.next hb
  replace hB := hB.trans (hb.mono hB.size)
  clear hb
  go_wp2_with fail
  clear hx bx7
  refine (cdec (s := s) (f := Fr.zero) (n := 4) _ rfl HSZ.out (Fr.dec_zero HDE.out)).mono ?_
  rintro e w5 ⟨⟨YA, Yk, YB, Yl, rfl, hd⟩, hb⟩
  replace bx0 := bx0.next hb
  replace hp0 := hp0.next hb
  replace hB := hB.trans (hb.mono hB.size)
  clear hb
  dsimp only [Fr.zero, List.length_nil] at hd ⊢
  go_wp2_with fail
  refine name_call fun W2 hW2 => ?_
  have hb : Below w5.heap.size w5 W2 := hW2 ▸ (Below.refl _ _).alloc (Nat.le_refl _) _
  replace bx0 := bx0.next hb
  replace hp0 := hp0.next hb
  replace hd := hd.next hb
  replace hB := hB.trans (hb.mono hB.size)
  clear hb hW2
  refine (cref (f := Fr.zero) hd ⟨by decide, by decide, fun p hp => by cases hp⟩).mono ?_
  rintro e w6 ⟨⟨ZA, Zk, ZB, Zl, rfl, hz⟩, hb⟩
  replace bx0 := bx0.next hb
  replace hp0 := hp0.next hb
  replace hd := hd.next hb
  replace hB := hB.trans (hb.mono hB.size)
  clear hb
  go_wp2_with fail
  refine (crsame hz frzero_is (decide_eq_true rfl)).mono ?_
  rintro e w7 ⟨rfl, hb⟩
  replace bx0 := bx0.next hb
  replace hp0 := hp0.next hb
  replace hd := hd.next hb
  replace hz := hz.next hb
  replace hB := hB.trans (hb.mono hB.size)
  clear hb
  go_wp2_with fail
  refine (fixed7_any _).mono ?_
  rintro e w8 ⟨rfl, hb⟩
  replace bx0 := bx0.next hb
  replace hp0 := hp0.next hb
  replace hd := hd.next hb
  replace hz := hz.next hb
  replace hB := hB.trans (hb.mono hB.size)
  clear hb
  go_wp2_with fail
  go_ret
  exact ⟨rfl, hB⟩

set_option maxRecDepth 100000 in
set_option maxHeartbeats 8000000 in
theorem walk_ny (v0 : Value) (f0 : Fr) (a1 : ByteArray) (w : World) (h0 : FrIs false w 0 w.heap.size v0 f0) (hr : Fr.right (Fr.cut f0) = false) (hd : Fr.decE (a1.extract 0 (min (a1.size : Int) 300).toNat).data.toList = 0) :
    Calls Try.prog 10 #[v0, .string a1] w fun x w' => x = .returned (.bool true) ∧ Below w.heap.size w w' := by
  obtain ⟨s, hse⟩ : ∃ s, a1.extract 0 (min (a1.size : Int) 300).toNat = s := ⟨_, rfl⟩
  have hx := str_cut a1 300 (min (a1.size : Int) 300).toNat (by omega)
  rw [hse] at hx hd
  have HSZ := Lib.hid (show s.data.toList.length ≤ 1000000 by have : s.size = s.data.toList.length := (by rw [Array.length_toList]; rfl); omega)
  have HR := Lib.hid hr; clear hr
  have HDE := Lib.hid hd; clear hd
  obtain ⟨a0A, a0B, a0k, a0l, rfl, _, _⟩ := id h0
  obtain ⟨P0, hP0⟩ : ∃ P, Fr.cut f0 = P := ⟨_, rfl⟩
  have hs0 : P0.Small := hP0 ▸ Fr.cut_small _
  have HP0 := Lib.hid hP0; have HS0 := Lib.hid hs0; clear hP0 hs0
  go_enter Try.func10, Try.ntmps10
  try simp only [List.append_eq, List.cons_append, List.nil_append]
  go_wp2_with fail
  refine name_call fun W0 hW0 => ?_
  have bx0 : Box W0 (w.heap.size) #[.int .i64 f0.kind, .int .i64 f0.epoch, .int .i64 f0.seq, .int .i64 f0.letter, .slice a0A f0.pieces.length a0k, .int .i64 f0.init, .int .i64 f0.num, .int .i64 f0.count, .slice a0B f0.path.length a0l] 58 := hW0 ▸ (Box.new' #[.int .i64 f0.kind, .int .i64 f0.epoch, .int .i64 f0.seq, .int .i64 f0.letter, .slice a0A f0.pieces.length a0k, .int .i64 f0.init, .int .i64 f0.num, .int .i64 f0.count, .slice a0B f0.path.length a0l] 58 (by simp))
  have hB : Below w.heap.size w W0 := hW0 ▸ ((Below.refl _ _).alloc (by first | (simp; done) | (simp; omega)) _)
  have hlo : w.heap.size + 1 ≤ W0.heap.size := hW0 ▸ (by simp)
  clear hW0
  refine (ccut (f := P0) ((h0.keep fun b _ q => hB.block b q).widen (Nat.le_refl _) hB.size) HP0.out).mono ?_
  rintro e v0 ⟨⟨P0A, P0k, P0B, P0l, rfl, hp0⟩, hb⟩
  replace bx0 := bx0.next hb
  replace hp0 := hp0.widen (lo' := w.heap.size + 1) hlo (Nat.le_refl _)
  replace hB := hB.trans (hb.mono hB.size)
  replace hlo := Nat.le_trans hlo hb.size
  clear hb
  obtain ⟨c0, c1, c2, c3, c4, c5, c6, c7, c8⟩ := nine_cells bx0
  obtain ⟨f0, f1, f2, f3, f4, f5, f6, f7, f8⟩ := nine_free bx0
  go_wp2_with fail
  clear c0 c1 c2 c3 c4 c5 c6 c7 c8
  clear f0 f1 f2 f3 f4 f5 f6 f7 f8
  refine name_call fun W hW => ?_
  have qx0 : Box W (w.heap.size) #[.int .i64 P0.kind, .int .i64 P0.epoch, .int .i64 P0.seq, .int .i64 P0.letter, .slice P0A P0.pieces.length P0k, .int .i64 P0.init, .int .i64 P0.num, .int .i64 P0.count, .slice P0B P0.path.length P0l] 58 := by rw [← hW]; exact nine_box bx0
  have qp0 : FrIs false W (w.heap.size + 1) W.heap.size (.agg #[.int .i64 P0.kind, .int .i64 P0.epoch, .int .i64 P0.seq, .int .i64 P0.letter, .slice P0A P0.pieces.length P0k, .int .i64 P0.init, .int .i64 P0.num, .int .i64 P0.count, .slice P0B P0.path.length P0l]) P0 := by rw [← hW]; exact hp0.nine_far (by omega)
  have qB : Below w.heap.size w W := by rw [← hW]; exact nine_below hB (by omega)
  have qlo : w.heap.size + 1 ≤ W.heap.size := by rw [← hW]; exact Nat.le_trans hlo (Nat.le_of_eq nine_size.symm)
  clear bx0 hp0 hB hlo hW
  have bx0 := qx0
  clear qx0
  have hp0 := qp0
  clear qp0
  have hB := qB
  have hlo := qlo
  clear qB qlo
  obtain ⟨W0, rfl⟩ : ∃ x : World, x = W := ⟨_, rfl⟩
  replace hp0 := hp0.zero_
  have hR := HP0.out ▸ HR.out
  have HE1 := Lib.hid (Fr.enc_not hR)
  have HR1 := Lib.hid hR
  clear hR
  obtain ⟨c0, c1, c2, c3, c4, c5, c6, c7, c8⟩ := nine_cells bx0
  try rw [hse]
  refine (cenc (S := ⟨#[]⟩) hp0 (by rw [HE1.out.2]) HE1.out.1).mono ?_
  rintro e w1 ⟨rfl, hb⟩
  replace bx0 := bx0.next hb
  replace hp0 := hp0.next hb
  replace hB := hB.trans (hb.mono hB.size)
  clear hb
  obtain ⟨d0, d1, d2, d3, d4, d5, d6, d7, d8⟩ := nine_cells bx0
  go_wp2_with fail
  clear d0 d1 d2 d3 d4 d5 d6 d7 d8
  refine (cright hp0 HR1.out).mono ?_
  rintro e w2 ⟨rfl, hb⟩
  replace bx0 := bx0.next hb
  replace hp0 := hp0.next hb
  replace hB := hB.trans (hb.mono hB.size)
  clear hb
  go_wp2_with fail
  refine (cdec (s := s) (f := Fr.dec s.data.toList) (n := 0) _ rfl HSZ.out ⟨rfl, HDE.out⟩).mono ?_
  rintro e w3 ⟨⟨YA, Yk, YB, Yl, rfl, hd⟩, hb⟩
  replace bx0 := bx0.next hb
  replace hp0 := hp0.next hb
  replace hB := hB.trans (hb.mono hB.size)
  clear hb
  obtain ⟨D, hD⟩ : ∃ D, Fr.dec s.data.toList = D := ⟨_, rfl⟩
  have HD := Lib.hid hD
  rw [hD] at hd ⊢
  clear hD
  go_wp2_with fail
  refine name_call fun W2 hW2 => ?_
  have bx9 : Box W2 w3.heap.size #[.int .i64 D.kind, .int .i64 D.epoch, .int .i64 D.seq, .int .i64 D.letter, .slice YA D.pieces.length Yk, .int .i64 D.init, .int .i64 D.num, .int .i64 D.count, .slice YB D.path.length Yl] 58 := hW2 ▸ Box.new _ _ _
  have hb : Below w3.heap.size w3 W2 := hW2 ▸ (Below.refl _ _).alloc (Nat.le_refl _) _
  replace bx0 := bx0.next hb
  replace hp0 := hp0.next hb
  replace hd := hd.next hb
  replace hB := hB.trans (hb.mono hB.size)
  clear hb hW2
  have hrd := HD.out ▸ (Fr.dec_right HDE.out)
  have HRD := Lib.hid hrd
  have b1 : (s.toList == s.toList) = true := by simp
  clear hrd
  refine (cenc (S := s) (n := 0) hd (bytes_of (by rw [(Fr.enc_yes HRD.out.1).2]; exact HRD.out.2)) (Fr.enc_yes HRD.out.1).1).mono ?_
  rintro e w4 ⟨rfl, hb⟩
  replace bx0 := bx0.next hb
  replace hp0 := hp0.next hb
  replace hd := hd.next hb
  replace bx9 := bx9.next hb
  replace hB := hB.trans (hb.mono hB.size)
  clear hb
  obtain ⟨d0, d1, d2, d3, d4, d5, d6, d7, d8⟩ := nine_cells bx9
  go_wp2_with fail
  clear d0 d1 d2 d3 d4 d5 d6 d7 d8
  refine (cright hd HRD.out.1).mono ?_
  rintro e w5 ⟨rfl, hb⟩
  replace bx0 := bx0.next hb
  replace hp0 := hp0.next hb
  replace hd := hd.next hb
  replace bx9 := bx9.next hb
  replace hB := hB.trans (hb.mono hB.size)
  clear hb
  go_wp2_with fail
  refine (fixed7_any _).mono ?_
  rintro e w6 ⟨rfl, hb⟩
  replace bx0 := bx0.next hb
  replace hp0 := hp0.next hb
  replace hd := hd.next hb
  replace bx9 := bx9.next hb
  replace hB := hB.trans (hb.mono hB.size)
  clear hb
  go_wp2_with fail
  go_ret
  exact ⟨rfl, hB⟩

set_option maxRecDepth 100000 in
set_option maxHeartbeats 8000000 in
theorem walk_nn (v0 : Value) (f0 : Fr) (a1 : ByteArray) (w : World) (h0 : FrIs false w 0 w.heap.size v0 f0) (hr : Fr.right (Fr.cut f0) = false) (hd : Fr.decE (a1.extract 0 (min (a1.size : Int) 300).toNat).data.toList ≠ 0) :
    Calls Try.prog 10 #[v0, .string a1] w fun x w' => x = .returned (.bool true) ∧ Below w.heap.size w w' := by
  obtain ⟨s, hse⟩ : ∃ s, a1.extract 0 (min (a1.size : Int) 300).toNat = s := ⟨_, rfl⟩
  have hx := str_cut a1 300 (min (a1.size : Int) 300).toNat (by omega)
  rw [hse] at hx hd
  have HSZ := Lib.hid (show s.data.toList.length ≤ 1000000 by have : s.size = s.data.toList.length := (by rw [Array.length_toList]; rfl); omega)
  have HR := Lib.hid hr; clear hr
  have HDE := Lib.hid hd; clear hd
  obtain ⟨a0A, a0B, a0k, a0l, rfl, _, _⟩ := id h0
  obtain ⟨P0, hP0⟩ : ∃ P, Fr.cut f0 = P := ⟨_, rfl⟩
  have hs0 : P0.Small := hP0 ▸ Fr.cut_small _
  have HP0 := Lib.hid hP0; have HS0 := Lib.hid hs0; clear hP0 hs0
  go_enter Try.func10, Try.ntmps10
  try simp only [List.append_eq, List.cons_append, List.nil_append]
  go_wp2_with fail
  refine name_call fun W0 hW0 => ?_
  have bx0 : Box W0 (w.heap.size) #[.int .i64 f0.kind, .int .i64 f0.epoch, .int .i64 f0.seq, .int .i64 f0.letter, .slice a0A f0.pieces.length a0k, .int .i64 f0.init, .int .i64 f0.num, .int .i64 f0.count, .slice a0B f0.path.length a0l] 58 := hW0 ▸ (Box.new' #[.int .i64 f0.kind, .int .i64 f0.epoch, .int .i64 f0.seq, .int .i64 f0.letter, .slice a0A f0.pieces.length a0k, .int .i64 f0.init, .int .i64 f0.num, .int .i64 f0.count, .slice a0B f0.path.length a0l] 58 (by simp))
  have hB : Below w.heap.size w W0 := hW0 ▸ ((Below.refl _ _).alloc (by first | (simp; done) | (simp; omega)) _)
  have hlo : w.heap.size + 1 ≤ W0.heap.size := hW0 ▸ (by simp)
  clear hW0
  refine (ccut (f := P0) ((h0.keep fun b _ q => hB.block b q).widen (Nat.le_refl _) hB.size) HP0.out).mono ?_
  rintro e v0 ⟨⟨P0A, P0k, P0B, P0l, rfl, hp0⟩, hb⟩
  replace bx0 := bx0.next hb
  replace hp0 := hp0.widen (lo' := w.heap.size + 1) hlo (Nat.le_refl _)
  replace hB := hB.trans (hb.mono hB.size)
  replace hlo := Nat.le_trans hlo hb.size
  clear hb
  obtain ⟨c0, c1, c2, c3, c4, c5, c6, c7, c8⟩ := nine_cells bx0
  obtain ⟨f0, f1, f2, f3, f4, f5, f6, f7, f8⟩ := nine_free bx0
  go_wp2_with fail
  clear c0 c1 c2 c3 c4 c5 c6 c7 c8
  clear f0 f1 f2 f3 f4 f5 f6 f7 f8
  refine name_call fun W hW => ?_
  have qx0 : Box W (w.heap.size) #[.int .i64 P0.kind, .int .i64 P0.epoch, .int .i64 P0.seq, .int .i64 P0.letter, .slice P0A P0.pieces.length P0k, .int .i64 P0.init, .int .i64 P0.num, .int .i64 P0.count, .slice P0B P0.path.length P0l] 58 := by rw [← hW]; exact nine_box bx0
  have qp0 : FrIs false W (w.heap.size + 1) W.heap.size (.agg #[.int .i64 P0.kind, .int .i64 P0.epoch, .int .i64 P0.seq, .int .i64 P0.letter, .slice P0A P0.pieces.length P0k, .int .i64 P0.init, .int .i64 P0.num, .int .i64 P0.count, .slice P0B P0.path.length P0l]) P0 := by rw [← hW]; exact hp0.nine_far (by omega)
  have qB : Below w.heap.size w W := by rw [← hW]; exact nine_below hB (by omega)
  have qlo : w.heap.size + 1 ≤ W.heap.size := by rw [← hW]; exact Nat.le_trans hlo (Nat.le_of_eq nine_size.symm)
  clear bx0 hp0 hB hlo hW
  have bx0 := qx0
  clear qx0
  have hp0 := qp0
  clear qp0
  have hB := qB
  have hlo := qlo
  clear qB qlo
  obtain ⟨W0, rfl⟩ : ∃ x : World, x = W := ⟨_, rfl⟩
  replace hp0 := hp0.zero_
  have hR := HP0.out ▸ HR.out
  have HE1 := Lib.hid (Fr.enc_not hR)
  have HR1 := Lib.hid hR
  clear hR
  obtain ⟨c0, c1, c2, c3, c4, c5, c6, c7, c8⟩ := nine_cells bx0
  try rw [hse]
  refine (cenc (S := ⟨#[]⟩) hp0 (by rw [HE1.out.2]) HE1.out.1).mono ?_
  rintro e w1 ⟨rfl, hb⟩
  replace bx0 := bx0.next hb
  replace hp0 := hp0.next hb
  replace hB := hB.trans (hb.mono hB.size)
  clear hb
  obtain ⟨d0, d1, d2, d3, d4, d5, d6, d7, d8⟩ := nine_cells bx0
  go_wp2_with fail
  clear d0 d1 d2 d3 d4 d5 d6 d7 d8
  refine (cright hp0 HR1.out).mono ?_
  rintro e w2 ⟨rfl, hb⟩
  replace bx0 := bx0.next hb
  replace hp0 := hp0.next hb
  replace hB := hB.trans (hb.mono hB.size)
  clear hb
  go_wp2_with fail
  refine (cdec (s := s) (f := Fr.zero) (n := 4) _ rfl HSZ.out (Fr.dec_zero HDE.out)).mono ?_
  rintro e w3 ⟨⟨YA, Yk, YB, Yl, rfl, hd⟩, hb⟩
  replace bx0 := bx0.next hb
  replace hp0 := hp0.next hb
  replace hB := hB.trans (hb.mono hB.size)
  clear hb
  dsimp only [Fr.zero, List.length_nil] at hd ⊢
  go_wp2_with fail
  refine name_call fun W2 hW2 => ?_
  have hb : Below w3.heap.size w3 W2 := hW2 ▸ (Below.refl _ _).alloc (Nat.le_refl _) _
  replace bx0 := bx0.next hb
  replace hp0 := hp0.next hb
  replace hd := hd.next hb
  replace hB := hB.trans (hb.mono hB.size)
  clear hb hW2
  refine (cref (f := Fr.zero) hd ⟨by decide, by decide, fun p hp => by cases hp⟩).mono ?_
  rintro e w4 ⟨⟨ZA, Zk, ZB, Zl, rfl, hz⟩, hb⟩
  replace bx0 := bx0.next hb
  replace hp0 := hp0.next hb
  replace hd := hd.next hb
  replace hB := hB.trans (hb.mono hB.size)
  clear hb
  go_wp2_with fail
  refine (crsame hz frzero_is (decide_eq_true rfl)).mono ?_
  rintro e w5 ⟨rfl, hb⟩
  replace bx0 := bx0.next hb
  replace hp0 := hp0.next hb
  replace hd := hd.next hb
  replace hz := hz.next hb
  replace hB := hB.trans (hb.mono hB.size)
  clear hb
  go_wp2_with fail
  refine (fixed7_any _).mono ?_
  rintro e w6 ⟨rfl, hb⟩
  replace bx0 := bx0.next hb
  replace hp0 := hp0.next hb
  replace hd := hd.next hb
  replace hz := hz.next hb
  replace hB := hB.trans (hb.mono hB.size)
  clear hb
  go_wp2_with fail
  go_ret
  exact ⟨rfl, hB⟩

theorem walk (v0 : Value) (f0 : Fr) (a1 : ByteArray) (w : World) (h0 : FrIs false w 0 w.heap.size v0 f0) :
    Calls Try.prog 10 #[v0, .string a1] w fun x w' => x = .returned (.bool true) ∧ Below w.heap.size w w' := by
  by_cases hd : Fr.decE (a1.extract 0 (min (a1.size : Int) 300).toNat).data.toList = 0
  · cases hr : Fr.right (Fr.cut f0)
    · exact walk_ny v0 f0 a1 w h0 hr hd
    · exact walk_yy v0 f0 a1 w h0 hr hd
  · cases hr : Fr.right (Fr.cut f0)
    · exact walk_nn v0 f0 a1 w h0 hr hd
    · exact walk_yn v0 f0 a1 w h0 hr hd
end Go.Proofs.Ytdfgnmdofjhnkaa.frameBack
