/- FrameSides: the walk. -/
import Derived.Test.YtdfgnmdofjhnkaaG21
namespace Go.Proofs.Ytdfgnmdofjhnkaa.frameSides
open Go.RowKit Go.Proofs.Ytdfgnmdofjhnkaa

set_option maxRecDepth 100000 in
set_option maxHeartbeats 8000000 in
theorem walk_n (v0 : Value) (f0 : Fr) (v1 : Value) (f1 : Fr) (a2 : Int) (hw2 : 0 ≤ a2 ∧ a2 ≤ 255) (w : World) (h0 : FrIs false w 0 w.heap.size v0 f0) (h1 : FrIs false w 0 w.heap.size v1 f1) (hr : Fr.right (Fr.cut f0) = false) :
    Calls Try.prog 11 #[v0, v1, .int .u8 a2] w fun x w' => x = .returned (.bool true) ∧ Below w.heap.size w w' := by
  have HR := Lib.hid hr; clear hr
  have _h := hw2
  clear _h hw2
  obtain ⟨a0A, a0B, a0k, a0l, rfl, _, _⟩ := id h0
  obtain ⟨P0, hP0⟩ : ∃ P, Fr.cut f0 = P := ⟨_, rfl⟩
  have hs0 : P0.Small := hP0 ▸ Fr.cut_small _
  have HP0 := Lib.hid hP0; have HS0 := Lib.hid hs0; clear hP0 hs0
  obtain ⟨a1A, a1B, a1k, a1l, rfl, _, _⟩ := id h1
  obtain ⟨P1, hP1⟩ : ∃ P, Fr.cut f1 = P := ⟨_, rfl⟩
  have hs1 : P1.Small := hP1 ▸ Fr.cut_small _
  have HP1 := Lib.hid hP1; have HS1 := Lib.hid hs1; clear hP1 hs1
  go_enter Try.func11, Try.ntmps11
  try simp only [List.append_eq, List.cons_append, List.nil_append]
  go_wp2_with fail
  refine name_call fun W0 hW0 => ?_
  have bx0 : Box W0 (w.heap.size) #[.int .i64 f0.kind, .int .i64 f0.epoch, .int .i64 f0.seq, .int .i64 f0.letter, .slice a0A f0.pieces.length a0k, .int .i64 f0.init, .int .i64 f0.num, .int .i64 f0.count, .slice a0B f0.path.length a0l] 58 := hW0 ▸ ((Box.new' #[.int .i64 f0.kind, .int .i64 f0.epoch, .int .i64 f0.seq, .int .i64 f0.letter, .slice a0A f0.pieces.length a0k, .int .i64 f0.init, .int .i64 f0.num, .int .i64 f0.count, .slice a0B f0.path.length a0l] 58 (by simp)).alloc _)
  have bx1 : Box W0 (w.heap.size + 1) #[.int .i64 f1.kind, .int .i64 f1.epoch, .int .i64 f1.seq, .int .i64 f1.letter, .slice a1A f1.pieces.length a1k, .int .i64 f1.init, .int .i64 f1.num, .int .i64 f1.count, .slice a1B f1.path.length a1l] 58 := hW0 ▸ (Box.new' #[.int .i64 f1.kind, .int .i64 f1.epoch, .int .i64 f1.seq, .int .i64 f1.letter, .slice a1A f1.pieces.length a1k, .int .i64 f1.init, .int .i64 f1.num, .int .i64 f1.count, .slice a1B f1.path.length a1l] 58 (by simp))
  have hB : Below w.heap.size w W0 := hW0 ▸ (((Below.refl _ _).alloc (by first | (simp; done) | (simp; omega)) _).alloc (by first | (simp; done) | (simp; omega)) _)
  have hlo : w.heap.size + 1 + 1 ≤ W0.heap.size := hW0 ▸ (by simp)
  clear hW0
  refine (ccut (f := P0) ((h0.keep fun b _ q => hB.block b q).widen (Nat.le_refl _) hB.size) HP0.out).mono ?_
  rintro e v0 ⟨⟨P0A, P0k, P0B, P0l, rfl, hp0⟩, hb⟩
  replace bx0 := bx0.next hb
  replace bx1 := bx1.next hb
  replace hp0 := hp0.widen (lo' := w.heap.size + 1 + 1) hlo (Nat.le_refl _)
  replace hB := hB.trans (hb.mono hB.size)
  replace hlo := Nat.le_trans hlo hb.size
  clear hb
  obtain ⟨c0, c1, c2, c3, c4, c5, c6, c7, c8⟩ := nine_cells bx0
  obtain ⟨f0, f1, f2, f3, f4, f5, f6, f7, f8⟩ := nine_free bx0
  obtain ⟨d0, d1, d2, d3, d4, d5, d6, d7, d8⟩ := nine_cells bx1
  go_wp2_with fail
  clear c0 c1 c2 c3 c4 c5 c6 c7 c8
  clear f0 f1 f2 f3 f4 f5 f6 f7 f8
  clear d0 d1 d2 d3 d4 d5 d6 d7 d8
  refine name_call fun W hW => ?_
  have qx0 : Box W (w.heap.size) #[.int .i64 P0.kind, .int .i64 P0.epoch, .int .i64 P0.seq, .int .i64 P0.letter, .slice P0A P0.pieces.length P0k, .int .i64 P0.init, .int .i64 P0.num, .int .i64 P0.count, .slice P0B P0.path.length P0l] 58 := by rw [← hW]; exact nine_box bx0
  have qx1 : Box W (w.heap.size + 1) #[.int .i64 f1.kind, .int .i64 f1.epoch, .int .i64 f1.seq, .int .i64 f1.letter, .slice a1A f1.pieces.length a1k, .int .i64 f1.init, .int .i64 f1.num, .int .i64 f1.count, .slice a1B f1.path.length a1l] 58 := by rw [← hW]; exact bx1.nine_far (by omega)
  have qp0 : FrIs false W (w.heap.size + 1 + 1) W.heap.size (.agg #[.int .i64 P0.kind, .int .i64 P0.epoch, .int .i64 P0.seq, .int .i64 P0.letter, .slice P0A P0.pieces.length P0k, .int .i64 P0.init, .int .i64 P0.num, .int .i64 P0.count, .slice P0B P0.path.length P0l]) P0 := by rw [← hW]; exact hp0.nine_far (by omega)
  have qB : Below w.heap.size w W := by rw [← hW]; exact nine_below hB (by omega)
  have qlo : w.heap.size + 1 + 1 ≤ W.heap.size := by rw [← hW]; exact Nat.le_trans hlo (Nat.le_of_eq nine_size.symm)
  clear bx0 bx1 hp0 hB hlo hW
  have bx0 := qx0
  clear qx0
  have bx1 := qx1
  clear qx1
  have hp0 := qp0
  clear qp0
  have hB := qB
  have hlo := qlo
  clear qB qlo
  obtain ⟨V0, rfl⟩ : ∃ x : World, x = W := ⟨_, rfl⟩
  refine (ccut (f := P1) ((h1.keep fun b _ q => hB.block b q).widen (Nat.le_refl _) hB.size) HP1.out).mono ?_
  rintro e v1 ⟨⟨P1A, P1k, P1B, P1l, rfl, hp1⟩, hb⟩
  replace bx0 := bx0.next hb
  replace bx1 := bx1.next hb
  replace hp0 := hp0.next hb
  replace hp1 := hp1.widen (lo' := w.heap.size + 1 + 1) hlo (Nat.le_refl _)
  replace hB := hB.trans (hb.mono hB.size)
  replace hlo := Nat.le_trans hlo hb.size
  clear hb
  obtain ⟨c0, c1, c2, c3, c4, c5, c6, c7, c8⟩ := nine_cells bx1
  obtain ⟨f0, f1, f2, f3, f4, f5, f6, f7, f8⟩ := nine_free bx1
  obtain ⟨d0, d1, d2, d3, d4, d5, d6, d7, d8⟩ := nine_cells bx0
  go_wp2_with fail
  clear c0 c1 c2 c3 c4 c5 c6 c7 c8
  clear f0 f1 f2 f3 f4 f5 f6 f7 f8
  clear d0 d1 d2 d3 d4 d5 d6 d7 d8
  refine name_call fun W hW => ?_
  have qx1 : Box W (w.heap.size + 1) #[.int .i64 P1.kind, .int .i64 P1.epoch, .int .i64 P1.seq, .int .i64 P1.letter, .slice P1A P1.pieces.length P1k, .int .i64 P1.init, .int .i64 P1.num, .int .i64 P1.count, .slice P1B P1.path.length P1l] 58 := by rw [← hW]; exact nine_box bx1
  have qx0 : Box W (w.heap.size) #[.int .i64 P0.kind, .int .i64 P0.epoch, .int .i64 P0.seq, .int .i64 P0.letter, .slice P0A P0.pieces.length P0k, .int .i64 P0.init, .int .i64 P0.num, .int .i64 P0.count, .slice P0B P0.path.length P0l] 58 := by rw [← hW]; exact bx0.nine_far (by omega)
  have qp0 : FrIs false W (w.heap.size + 1 + 1) W.heap.size (.agg #[.int .i64 P0.kind, .int .i64 P0.epoch, .int .i64 P0.seq, .int .i64 P0.letter, .slice P0A P0.pieces.length P0k, .int .i64 P0.init, .int .i64 P0.num, .int .i64 P0.count, .slice P0B P0.path.length P0l]) P0 := by rw [← hW]; exact hp0.nine_far (by omega)
  have qp1 : FrIs false W (w.heap.size + 1 + 1) W.heap.size (.agg #[.int .i64 P1.kind, .int .i64 P1.epoch, .int .i64 P1.seq, .int .i64 P1.letter, .slice P1A P1.pieces.length P1k, .int .i64 P1.init, .int .i64 P1.num, .int .i64 P1.count, .slice P1B P1.path.length P1l]) P1 := by rw [← hW]; exact hp1.nine_far (by omega)
  have qB : Below w.heap.size w W := by rw [← hW]; exact nine_below hB (by omega)
  have qlo : w.heap.size + 1 + 1 ≤ W.heap.size := by rw [← hW]; exact Nat.le_trans hlo (Nat.le_of_eq nine_size.symm)
  clear bx0 bx1 hp0 hp1 hB hlo hW
  have bx0 := qx0
  clear qx0
  have bx1 := qx1
  clear qx1
  have hp0 := qp0
  clear qp0
  have hp1 := qp1
  clear qp1
  have hB := qB
  have hlo := qlo
  clear qB qlo
  obtain ⟨W0, rfl⟩ : ∃ x : World, x = W := ⟨_, rfl⟩
  replace hp0 := hp0.zero_
  replace hp1 := hp1.zero_
  have hR := HP0.out ▸ HR.out
  have HE0 := Lib.hid (Fr.enc_not hR); clear hR
  obtain ⟨Y, hY⟩ : ∃ Y, ByteArray.mk (Fr.enc P1).toArray = Y := ⟨_, rfl⟩
  obtain ⟨E1, hE1⟩ : ∃ E, Fr.err P1 = E := ⟨_, rfl⟩
  have HY := Lib.hid hY; have HE1 := Lib.hid hE1; clear hY hE1
  obtain ⟨c0, c1, c2, c3, c4, c5, c6, c7, c8⟩ := nine_cells bx0
  refine (cenc (S := ⟨#[]⟩) hp0 (by rw [HE0.out.2]) HE0.out.1).mono ?_
  rintro e w1 ⟨rfl, hb⟩
  replace bx0 := bx0.next hb
  replace bx1 := bx1.next hb
  replace hp0 := hp0.next hb
  replace hp1 := hp1.next hb
  replace hB := hB.trans (hb.mono hB.size)
  clear hb
  obtain ⟨d0, d1, d2, d3, d4, d5, d6, d7, d8⟩ := nine_cells bx1
  go_wp2_with fail
  clear d0 d1 d2 d3 d4 d5 d6 d7 d8
  refine (cenc hp1 HY.out HE1.out).mono ?_
  rintro e w2 ⟨rfl, hb⟩
  replace bx0 := bx0.next hb
  replace bx1 := bx1.next hb
  replace hp0 := hp0.next hb
  replace hp1 := hp1.next hb
  replace hB := hB.trans (hb.mono hB.size)
  clear hb
  go_wp2_with fail
  refine (fixed7_any _).mono ?_
  rintro e w3 ⟨rfl, hb⟩
  replace bx0 := bx0.next hb
  replace bx1 := bx1.next hb
  replace hp0 := hp0.next hb
  replace hp1 := hp1.next hb
  replace hB := hB.trans (hb.mono hB.size)
  clear hb
  go_wp2_with fail
  go_ret
  exact ⟨rfl, hB⟩

set_option maxRecDepth 100000 in
set_option maxHeartbeats 8000000 in
theorem walk_ynn (v0 : Value) (f0 : Fr) (v1 : Value) (f1 : Fr) (a2 : Int) (hw2 : 0 ≤ a2 ∧ a2 ≤ 255) (w : World) (h0 : FrIs false w 0 w.heap.size v0 f0) (h1 : FrIs false w 0 w.heap.size v1 f1) (hr : Fr.right (Fr.cut f0) = true) (hq : Fr.right (Fr.cut f1) = false) (hd : Fr.decE (Fr.body (Fr.cut f0) ++ [UInt8.ofNat a2.toNat]) ≠ 0) :
    Calls Try.prog 11 #[v0, v1, .int .u8 a2] w fun x w' => x = .returned (.bool true) ∧ Below w.heap.size w w' := by
  have HR := Lib.hid hr; clear hr
  have HQ := Lib.hid hq; have HDZ := Lib.hid hd; have HW2 := Lib.hid hw2; clear hq hd hw2
  obtain ⟨a0A, a0B, a0k, a0l, rfl, _, _⟩ := id h0
  obtain ⟨P0, hP0⟩ : ∃ P, Fr.cut f0 = P := ⟨_, rfl⟩
  have hs0 : P0.Small := hP0 ▸ Fr.cut_small _
  have HP0 := Lib.hid hP0; have HS0 := Lib.hid hs0; clear hP0 hs0
  obtain ⟨a1A, a1B, a1k, a1l, rfl, _, _⟩ := id h1
  obtain ⟨P1, hP1⟩ : ∃ P, Fr.cut f1 = P := ⟨_, rfl⟩
  have hs1 : P1.Small := hP1 ▸ Fr.cut_small _
  have HP1 := Lib.hid hP1; have HS1 := Lib.hid hs1; clear hP1 hs1
  go_enter Try.func11, Try.ntmps11
  try simp only [List.append_eq, List.cons_append, List.nil_append]
  go_wp2_with fail
  refine name_call fun W0 hW0 => ?_
  have bx0 : Box W0 (w.heap.size) #[.int .i64 f0.kind, .int .i64 f0.epoch, .int .i64 f0.seq, .int .i64 f0.letter, .slice a0A f0.pieces.length a0k, .int .i64 f0.init, .int .i64 f0.num, .int .i64 f0.count, .slice a0B f0.path.length a0l] 58 := hW0 ▸ ((Box.new' #[.int .i64 f0.kind, .int .i64 f0.epoch, .int .i64 f0.seq, .int .i64 f0.letter, .slice a0A f0.pieces.length a0k, .int .i64 f0.init, .int .i64 f0.num, .int .i64 f0.count, .slice a0B f0.path.length a0l] 58 (by simp)).alloc _)
  have bx1 : Box W0 (w.heap.size + 1) #[.int .i64 f1.kind, .int .i64 f1.epoch, .int .i64 f1.seq, .int .i64 f1.letter, .slice a1A f1.pieces.length a1k, .int .i64 f1.init, .int .i64 f1.num, .int .i64 f1.count, .slice a1B f1.path.length a1l] 58 := hW0 ▸ (Box.new' #[.int .i64 f1.kind, .int .i64 f1.epoch, .int .i64 f1.seq, .int .i64 f1.letter, .slice a1A f1.pieces.length a1k, .int .i64 f1.init, .int .i64 f1.num, .int .i64 f1.count, .slice a1B f1.path.length a1l] 58 (by simp))
  have hB : Below w.heap.size w W0 := hW0 ▸ (((Below.refl _ _).alloc (by first | (simp; done) | (simp; omega)) _).alloc (by first | (simp; done) | (simp; omega)) _)
  have hlo : w.heap.size + 1 + 1 ≤ W0.heap.size := hW0 ▸ (by simp)
  clear hW0
  refine (ccut (f := P0) ((h0.keep fun b _ q => hB.block b q).widen (Nat.le_refl _) hB.size) HP0.out).mono ?_
  rintro e v0 ⟨⟨P0A, P0k, P0B, P0l, rfl, hp0⟩, hb⟩
  replace bx0 := bx0.next hb
  replace bx1 := bx1.next hb
  replace hp0 := hp0.widen (lo' := w.heap.size + 1 + 1) hlo (Nat.le_refl _)
  replace hB := hB.trans (hb.mono hB.size)
  replace hlo := Nat.le_trans hlo hb.size
  clear hb
  obtain ⟨c0, c1, c2, c3, c4, c5, c6, c7, c8⟩ := nine_cells bx0
  obtain ⟨f0, f1, f2, f3, f4, f5, f6, f7, f8⟩ := nine_free bx0
  obtain ⟨d0, d1, d2, d3, d4, d5, d6, d7, d8⟩ := nine_cells bx1
  go_wp2_with fail
  clear c0 c1 c2 c3 c4 c5 c6 c7 c8
  clear f0 f1 f2 f3 f4 f5 f6 f7 f8
  clear d0 d1 d2 d3 d4 d5 d6 d7 d8
  refine name_call fun W hW => ?_
  have qx0 : Box W (w.heap.size) #[.int .i64 P0.kind, .int .i64 P0.epoch, .int .i64 P0.seq, .int .i64 P0.letter, .slice P0A P0.pieces.length P0k, .int .i64 P0.init, .int .i64 P0.num, .int .i64 P0.count, .slice P0B P0.path.length P0l] 58 := by rw [← hW]; exact nine_box bx0
  have qx1 : Box W (w.heap.size + 1) #[.int .i64 f1.kind, .int .i64 f1.epoch, .int .i64 f1.seq, .int .i64 f1.letter, .slice a1A f1.pieces.length a1k, .int .i64 f1.init, .int .i64 f1.num, .int .i64 f1.count, .slice a1B f1.path.length a1l] 58 := by rw [← hW]; exact bx1.nine_far (by omega)
  have qp0 : FrIs false W (w.heap.size + 1 + 1) W.heap.size (.agg #[.int .i64 P0.kind, .int .i64 P0.epoch, .int .i64 P0.seq, .int .i64 P0.letter, .slice P0A P0.pieces.length P0k, .int .i64 P0.init, .int .i64 P0.num, .int .i64 P0.count, .slice P0B P0.path.length P0l]) P0 := by rw [← hW]; exact hp0.nine_far (by omega)
  have qB : Below w.heap.size w W := by rw [← hW]; exact nine_below hB (by omega)
  have qlo : w.heap.size + 1 + 1 ≤ W.heap.size := by rw [← hW]; exact Nat.le_trans hlo (Nat.le_of_eq nine_size.symm)
  clear bx0 bx1 hp0 hB hlo hW
  have bx0 := qx0
  clear qx0
  have bx1 := qx1
  clear qx1
  have hp0 := qp0
  clear qp0
  have hB := qB
  have hlo := qlo
  clear qB qlo
  obtain ⟨V0, rfl⟩ : ∃ x : World, x = W := ⟨_, rfl⟩
  refine (ccut (f := P1) ((h1.keep fun b _ q => hB.block b q).widen (Nat.le_refl _) hB.size) HP1.out).mono ?_
  rintro e v1 ⟨⟨P1A, P1k, P1B, P1l, rfl, hp1⟩, hb⟩
  replace bx0 := bx0.next hb
  replace bx1 := bx1.next hb
  replace hp0 := hp0.next hb
  replace hp1 := hp1.widen (lo' := w.heap.size + 1 + 1) hlo (Nat.le_refl _)
  replace hB := hB.trans (hb.mono hB.size)
  replace hlo := Nat.le_trans hlo hb.size
  clear hb
  obtain ⟨c0, c1, c2, c3, c4, c5, c6, c7, c8⟩ := nine_cells bx1
  obtain ⟨f0, f1, f2, f3, f4, f5, f6, f7, f8⟩ := nine_free bx1
  obtain ⟨d0, d1, d2, d3, d4, d5, d6, d7, d8⟩ := nine_cells bx0
  go_wp2_with fail
  clear c0 c1 c2 c3 c4 c5 c6 c7 c8
  clear f0 f1 f2 f3 f4 f5 f6 f7 f8
  clear d0 d1 d2 d3 d4 d5 d6 d7 d8
  refine name_call fun W hW => ?_
  have qx1 : Box W (w.heap.size + 1) #[.int .i64 P1.kind, .int .i64 P1.epoch, .int .i64 P1.seq, .int .i64 P1.letter, .slice P1A P1.pieces.length P1k, .int .i64 P1.init, .int .i64 P1.num, .int .i64 P1.count, .slice P1B P1.path.length P1l] 58 := by rw [← hW]; exact nine_box bx1
  have qx0 : Box W (w.heap.size) #[.int .i64 P0.kind, .int .i64 P0.epoch, .int .i64 P0.seq, .int .i64 P0.letter, .slice P0A P0.pieces.length P0k, .int .i64 P0.init, .int .i64 P0.num, .int .i64 P0.count, .slice P0B P0.path.length P0l] 58 := by rw [← hW]; exact bx0.nine_far (by omega)
  have qp0 : FrIs false W (w.heap.size + 1 + 1) W.heap.size (.agg #[.int .i64 P0.kind, .int .i64 P0.epoch, .int .i64 P0.seq, .int .i64 P0.letter, .slice P0A P0.pieces.length P0k, .int .i64 P0.init, .int .i64 P0.num, .int .i64 P0.count, .slice P0B P0.path.length P0l]) P0 := by rw [← hW]; exact hp0.nine_far (by omega)
  have qp1 : FrIs false W (w.heap.size + 1 + 1) W.heap.size (.agg #[.int .i64 P1.kind, .int .i64 P1.epoch, .int .i64 P1.seq, .int .i64 P1.letter, .slice P1A P1.pieces.length P1k, .int .i64 P1.init, .int .i64 P1.num, .int .i64 P1.count, .slice P1B P1.path.length P1l]) P1 := by rw [← hW]; exact hp1.nine_far (by omega)
  have qB : Below w.heap.size w W := by rw [← hW]; exact nine_below hB (by omega)
  have qlo : w.heap.size + 1 + 1 ≤ W.heap.size := by rw [← hW]; exact Nat.le_trans hlo (Nat.le_of_eq nine_size.symm)
  clear bx0 bx1 hp0 hp1 hB hlo hW
  have bx0 := qx0
  clear qx0
  have bx1 := qx1
  clear qx1
  have hp0 := qp0
  clear qp0
  have hp1 := qp1
  clear qp1
  have hB := qB
  have hlo := qlo
  clear qB qlo
  obtain ⟨W0, rfl⟩ : ∃ x : World, x = W := ⟨_, rfl⟩
  replace hp0 := hp0.zero_
  replace hp1 := hp1.zero_
  have hR := HP0.out ▸ HR.out
  have hQ := HP1.out ▸ HQ.out
  have hDZ := HP0.out ▸ HDZ.out
  have HE0 := Lib.hid (Fr.enc_yes hR)
  obtain ⟨X, hX⟩ : ∃ X, ByteArray.mk (Fr.enc P0).toArray = X := ⟨_, rfl⟩
  have hxl : X.data.toList = Fr.body P0 := by rw [← hX, ← HE0.out.2]
  have hxs : X.size = (Fr.body P0).length := by have : X.size = X.data.toList.length := (by rw [Array.length_toList]; rfl); rw [this, hxl]
  have hx2 := Fr.body_two P0
  have hxm := Fr.body_len hR
  have HX := Lib.hid hX; have HXL := Lib.hid hxl; have HXS := Lib.hid hxs; have HXM := Lib.hid hxm; clear hX hxl hxm
  have HE1 := Lib.hid (Fr.enc_not hQ); clear hQ
  have HR1 := Lib.hid hR; have HD := Lib.hid hDZ; clear hR hDZ
  have hs2 : (2 : Int) ≤ (X.size : Int) := by omega
  have hs3 : ¬ (X.size : Int) < 2 := by omega
  have HS2 := Lib.hid hs2; have HS3 := Lib.hid hs3; clear hs2 hs3 hxs hx2
  obtain ⟨c0, c1, c2, c3, c4, c5, c6, c7, c8⟩ := nine_cells bx0
  refine (cenc hp0 HX.out HE0.out.1).mono ?_
  rintro e w1 ⟨rfl, hb⟩
  replace bx0 := bx0.next hb
  replace bx1 := bx1.next hb
  replace hp0 := hp0.next hb
  replace hp1 := hp1.next hb
  replace hB := hB.trans (hb.mono hB.size)
  clear hb
  obtain ⟨d0, d1, d2, d3, d4, d5, d6, d7, d8⟩ := nine_cells bx1
  go_wp2_with fail
  clear d0 d1 d2 d3 d4 d5 d6 d7 d8
  clear c0 c1 c2 c3 c4 c5 c6 c7 c8
  refine (cenc (S := ⟨#[]⟩) hp1 (by rw [HE1.out.2]) HE1.out.1).mono ?_
  rintro e w2 ⟨rfl, hb⟩
  replace bx0 := bx0.next hb
  replace bx1 := bx1.next hb
  replace hp0 := hp0.next hb
  replace hp1 := hp1.next hb
  replace hB := hB.trans (hb.mono hB.size)
  clear hb
  have hs3 := HS3.out; have hs2 := HS2.out
  go_upto_region 7 with fail
  replace bx0 := bx0.next ((Below.refl _ _).drew)
  replace bx1 := bx1.next ((Below.refl _ _).drew)
  replace hp0 := hp0.next ((Below.refl _ _).drew)
  replace hp1 := hp1.next ((Below.refl _ _).drew)
  replace hB := hB.drew
  have hE := Ext.refl (w2.drew)
  refine region_go 1664 (by kernel_rfl) ?_
  refine wpAny_go 1664 0 [0, 1, 2] 7 15 (by kernel_rfl) (by kernel_rfl) (fun _ _ _ _ _ h => h) (by kernel_rfl) (by rfl) (by rfl) (by kernel_rfl) ?_
  simp only [List.map_cons, List.map_nil, List.getD_cons_succ, List.getD_cons_zero]
  go_wp2_with fail
  change wpAnyM _ _ _ _ _ _ _ _ _ _
  refine wpAny_reads 1664 7 [3, 4] 31 13 (by kernel_rfl) (by kernel_rfl) (fun _ _ _ _ _ h => h) (by kernel_rfl) (by rfl) (by rfl) (by kernel_rfl) ?_
  simp only [List.map_cons, List.map_nil, List.getD_cons_succ, List.getD_cons_zero]
  go_wp2_with fail
  change _ → wpAnyM _ _ _ _ _ _ _ _ _ _; intro _
  refine wpAny_takeM 5 rfl (by kernel_rfl) (by rfl : 31 ||| 2 ^ 5 = 63) (by kernel_rfl) (by kernel_rfl) (by kernel_rfl) (by kernel_rfl) (fun _ _ _ h => h) (.inr ⟨by rfl, rfl⟩) ?_
  refine wpAny_go 1664 63 [6] 127 11 (by kernel_rfl) (by kernel_rfl) (fun _ _ _ _ _ h => h) (by kernel_rfl) (by rfl) (by rfl) (by kernel_rfl) ?_
  simp only [List.map_cons, List.map_nil, List.getD_cons_succ, List.getD_cons_zero]
  go_wp2_with fail
  change wpAnyM _ _ _ _ _ _ _ _ _ _
  refine wpAny_reads 1664 127 [8] 383 10 (by kernel_rfl) (by kernel_rfl) (fun _ _ _ _ _ h => h) (by kernel_rfl) (by rfl) (by rfl) (by kernel_rfl) ?_
  simp only [List.map_cons, List.map_nil, List.getD_cons_succ, List.getD_cons_zero]
  go_wp2_with fail
  change _ → wpAnyM _ _ _ _ _ _ _ _ _ _; intro _
  refine wpAny_oneM 7 511 (by kernel_rfl) (by kernel_rfl) (of_decide_eq_true (by kernel_rfl)) (by rfl) ?_
  simp only [List.getD_cons_succ, List.getD_cons_zero]
  go_wp2_with fail
  refine ⟨fun _ => hE, ?_⟩
  refine wpAny_oneM 9 1023 (by kernel_rfl) (by kernel_rfl) (of_decide_eq_true (by kernel_rfl)) (by rfl) ?_
  simp only [List.getD_cons_succ, List.getD_cons_zero]
  go_wp2_with fail
  refine ⟨fun _ => hE, ?_⟩
  refine wpAny_oneM 10 2047 (by kernel_rfl) (by kernel_rfl) (of_decide_eq_true (by kernel_rfl)) (by rfl) ?_
  simp only [List.getD_cons_succ, List.getD_cons_zero]
  go_wp2_with fail
  refine ⟨fun _ => hE, ?_⟩
  refine wpAny_go 1664 2047 [11, 12, 13, 14, 15, 16, 17] 262143 0 (by kernel_rfl) (by kernel_rfl) (fun _ _ _ _ _ h => h) (by kernel_rfl) (by rfl) (by rfl) (by kernel_rfl) ?_
  simp only [List.map_cons, List.map_nil, List.getD_cons_succ, List.getD_cons_zero]
  go_wp2_with fail
  change wpAnyM _ _ _ _ _ _ _ _ _ _
  refine wpAny_endM (by kernel_rfl) (by kernel_rfl) ?_
  go_upto_region 9 with fail
  refine name_wp fun W5 hW5 => ?_
  have hb : Below w2.drew.heap.size w2.drew W5 := hW5 ▸ Below.refl _ _
  replace bx0 := bx0.next hb
  replace bx1 := bx1.next hb
  replace hp0 := hp0.next hb
  replace hp1 := hp1.next hb
  replace hB := hB.trans (hb.mono hB.size)
  clear hb hW5
  clear hs3
  have hw2 := HW2.out
  obtain ⟨u, hu⟩ : ∃ u, UInt8.ofNat a2.toNat = u := ⟨_, rfl⟩
  have hcu : (u.toNat : Int) = a2 := by rw [← hu]; simp; omega
  have HDU := Lib.hid (show Fr.decE (Fr.body P0 ++ [u]) ≠ 0 by rw [← hu]; exact HD.out)
  clear hw2 hu
  have rs := run_byte_string' W5 u a2 hcu
  have hxm : X.size ≤ 1000000 := by have h := HXM.out; have h2 := HXS.out; omega
  go_wp2_with fail
  clear rs hcu
  refine name_call fun W6 hW6 => ?_
  have hb : Below W5.heap.size W5 W6 := hW6 ▸ (Below.refl _ _).alloc (Nat.le_refl _) _
  replace bx0 := bx0.next hb
  replace bx1 := bx1.next hb
  replace hp0 := hp0.next hb
  replace hp1 := hp1.next hb
  replace hB := hB.trans (hb.mono hB.size)
  clear hb hW6
  have hk0 : (0 : Int) ≤ (X.size : Int) - 1 := by omega
  have hkk : (X.size : Int) - 1 ≤ (X.size : Int) := by omega
  have hk1 : X.size - 1 < (Fr.body P0).length := by have h := HXS.out; omega
  have HK1 := Lib.hid hk1; clear hk1
  refine (cdec (l := Fr.body P0 ++ [u]) (f := Fr.zero) (n := 4) _ (by rw [← HXL.out]; exact append_list X _) (by rw [List.length_append]; have h := HXM.out; simp; omega) (Fr.dec_zero HDU.out)).mono ?_
  rintro e w3 ⟨⟨DA, Dk, DB, Dl, rfl, hd⟩, hb⟩
  replace bx0 := bx0.next hb
  replace bx1 := bx1.next hb
  replace hp0 := hp0.next hb
  replace hp1 := hp1.next hb
  replace hB := hB.trans (hb.mono hB.size)
  clear hb
  dsimp only [Fr.zero, List.length_nil] at hd ⊢
  clear hd
  go_wp2_with fail
  refine name_call fun W7 hW7 => ?_
  have bx7 : Box W7 w3.heap.size #[.int .i64 0, .int .i64 0, .int .i64 0, .int .i64 0, .slice DA 0 Dk, .int .i64 0, .int .i64 0, .int .i64 0, .slice DB 0 Dl] 58 := hW7 ▸ Box.new _ _ _
  have hb : Below w3.heap.size w3 W7 := hW7 ▸ (Below.refl _ _).alloc (Nat.le_refl _) _
  replace bx0 := bx0.next hb
  replace bx1 := bx1.next hb
  replace hp0 := hp0.next hb
  replace hp1 := hp1.next hb
  replace hB := hB.trans (hb.mono hB.size)
  clear hb hW7
  refine (cdec (l := (Fr.body P0).take (X.size - 1)) (f := Fr.zero) (n := 4) _ (by rw [extract_take, HXL.out]) (by have h := HXM.out; simp; omega) (Fr.dec_less HR1.out HK1.out)).mono ?_
  rintro e w4 ⟨⟨EA, Ek, EB, El, rfl, he⟩, hb⟩
  replace bx0 := bx0.next hb
  replace bx1 := bx1.next hb
  replace hp0 := hp0.next hb
  replace hp1 := hp1.next hb
  replace bx7 := bx7.next hb
  replace hB := hB.trans (hb.mono hB.size)
  clear hb
  dsimp only [Fr.zero, List.length_nil] at he ⊢
  clear he
  clear hk0 hkk hxm
  go_upto_region 11 with fail
  refine name_wp fun W8 hW8 => ?_
  have hb : Below w4.heap.size w4 W8 := hW8 ▸ (Below.refl _ _).alloc (Nat.le_refl _) _
  replace bx0 := bx0.next hb
  replace bx1 := bx1.next hb
  replace hp0 := hp0.next hb
  replace hp1 := hp1.next hb
  replace bx7 := bx7.next hb
  replace hB := hB.trans (hb.mono hB.size)
  clear hb hW8
  replace bx0 := bx0.next ((Below.refl _ _).drew)
  replace bx1 := bx1.next ((Below.refl _ _).drew)
  replace hp0 := hp0.next ((Below.refl _ _).drew)
  replace hp1 := hp1.next ((Below.refl _ _).drew)
  replace bx7 := bx7.next ((Below.refl _ _).drew)
  replace hB := hB.drew
  have hE := Ext.refl (W8.drew)
  refine region_go 32976 (by kernel_rfl) ?_
  refine wpAny_go 32976 0 [0, 1, 2, 3] 15 14 (by kernel_rfl) (by kernel_rfl) (fun _ _ _ _ _ h => h) (by kernel_rfl) (by rfl) (by rfl) (by kernel_rfl) ?_
  simp only [List.map_cons, List.map_nil, List.getD_cons_succ, List.getD_cons_zero]
  go_wp2_with fail
  change wpAnyM _ _ _ _ _ _ _ _ _ _
  refine wpAny_reads 32976 15 [5] 47 13 (by kernel_rfl) (by kernel_rfl) (fun _ _ _ _ _ h => h) (by kernel_rfl) (by rfl) (by rfl) (by kernel_rfl) ?_
  simp only [List.map_cons, List.map_nil, List.getD_cons_succ, List.getD_cons_zero]
  go_wp2_with fail
  change _ → wpAnyM _ _ _ _ _ _ _ _ _ _; intro _
  refine wpAny_oneM 4 63 (by kernel_rfl) (by kernel_rfl) (of_decide_eq_true (by kernel_rfl)) (by rfl) ?_
  simp only [List.getD_cons_succ, List.getD_cons_zero]
  go_wp2_with fail
  refine ⟨fun _ => hE, ?_⟩
  refine wpAny_oneM 6 127 (by kernel_rfl) (by kernel_rfl) (of_decide_eq_true (by kernel_rfl)) (by rfl) ?_
  simp only [List.getD_cons_succ, List.getD_cons_zero]
  go_wp2_with fail
  refine ⟨fun _ => hE, ?_⟩
  refine wpAny_oneM 7 255 (by kernel_rfl) (by kernel_rfl) (of_decide_eq_true (by kernel_rfl)) (by rfl) ?_
  simp only [List.getD_cons_succ, List.getD_cons_zero]
  go_wp2_with fail
  refine ⟨fun _ => hE, ?_⟩
  refine wpAny_go 32976 255 [8, 9, 10, 11, 12, 13, 14] 32767 3 (by kernel_rfl) (by kernel_rfl) (fun _ _ _ _ _ h => h) (by kernel_rfl) (by rfl) (by rfl) (by kernel_rfl) ?_
  simp only [List.map_cons, List.map_nil, List.getD_cons_succ, List.getD_cons_zero]
  go_wp2_with fail
  change wpAnyM _ _ _ _ _ _ _ _ _ _
  refine wpAny_oneM 15 65535 (by kernel_rfl) (by kernel_rfl) (of_decide_eq_true (by kernel_rfl)) (by rfl) ?_
  simp only [List.getD_cons_succ, List.getD_cons_zero]
  go_wp2_with fail
  refine (fixed7_any _).mono ?_
  rintro e w5 ⟨rfl, hb⟩
  replace bx0 := bx0.next hb
  replace bx1 := bx1.next hb
  replace hp0 := hp0.next hb
  replace hp1 := hp1.next hb
  replace bx7 := bx7.next hb
  replace hE := hE.trans (Ext.below hb (Nat.le_refl _))
  replace hB := hB.trans (hb.mono hB.size)
  clear hb
  go_wp2_with fail
  refine ⟨fun _ => hE, ?_⟩
  refine wpAny_go 32976 65535 [16, 17] 262143 0 (by kernel_rfl) (by kernel_rfl) (fun _ _ _ _ _ h => h) (by kernel_rfl) (by rfl) (by rfl) (by kernel_rfl) ?_
  simp only [List.map_cons, List.map_nil, List.getD_cons_succ, List.getD_cons_zero]
  go_wp2_with fail
  change wpAnyM _ _ _ _ _ _ _ _ _ _
  refine wpAny_endM (by kernel_rfl) (by kernel_rfl) ?_
  go_wp2_with fail
  go_ret
  exact ⟨rfl, hB⟩

set_option maxRecDepth 100000 in
set_option maxHeartbeats 8000000 in
theorem walk_yyn (v0 : Value) (f0 : Fr) (v1 : Value) (f1 : Fr) (a2 : Int) (hw2 : 0 ≤ a2 ∧ a2 ≤ 255) (w : World) (h0 : FrIs false w 0 w.heap.size v0 f0) (h1 : FrIs false w 0 w.heap.size v1 f1) (hr : Fr.right (Fr.cut f0) = true) (hq : Fr.right (Fr.cut f1) = true) (hd : Fr.decE (Fr.body (Fr.cut f0) ++ [UInt8.ofNat a2.toNat]) ≠ 0) :
    Calls Try.prog 11 #[v0, v1, .int .u8 a2] w fun x w' => x = .returned (.bool true) ∧ Below w.heap.size w w' := by
  have HR := Lib.hid hr; clear hr
  have HQ := Lib.hid hq; have HDZ := Lib.hid hd; have HW2 := Lib.hid hw2; clear hq hd hw2
  obtain ⟨a0A, a0B, a0k, a0l, rfl, _, _⟩ := id h0
  obtain ⟨P0, hP0⟩ : ∃ P, Fr.cut f0 = P := ⟨_, rfl⟩
  have hs0 : P0.Small := hP0 ▸ Fr.cut_small _
  have HP0 := Lib.hid hP0; have HS0 := Lib.hid hs0; clear hP0 hs0
  obtain ⟨a1A, a1B, a1k, a1l, rfl, _, _⟩ := id h1
  obtain ⟨P1, hP1⟩ : ∃ P, Fr.cut f1 = P := ⟨_, rfl⟩
  have hs1 : P1.Small := hP1 ▸ Fr.cut_small _
  have HP1 := Lib.hid hP1; have HS1 := Lib.hid hs1; clear hP1 hs1
  go_enter Try.func11, Try.ntmps11
  try simp only [List.append_eq, List.cons_append, List.nil_append]
  go_wp2_with fail
  refine name_call fun W0 hW0 => ?_
  have bx0 : Box W0 (w.heap.size) #[.int .i64 f0.kind, .int .i64 f0.epoch, .int .i64 f0.seq, .int .i64 f0.letter, .slice a0A f0.pieces.length a0k, .int .i64 f0.init, .int .i64 f0.num, .int .i64 f0.count, .slice a0B f0.path.length a0l] 58 := hW0 ▸ ((Box.new' #[.int .i64 f0.kind, .int .i64 f0.epoch, .int .i64 f0.seq, .int .i64 f0.letter, .slice a0A f0.pieces.length a0k, .int .i64 f0.init, .int .i64 f0.num, .int .i64 f0.count, .slice a0B f0.path.length a0l] 58 (by simp)).alloc _)
  have bx1 : Box W0 (w.heap.size + 1) #[.int .i64 f1.kind, .int .i64 f1.epoch, .int .i64 f1.seq, .int .i64 f1.letter, .slice a1A f1.pieces.length a1k, .int .i64 f1.init, .int .i64 f1.num, .int .i64 f1.count, .slice a1B f1.path.length a1l] 58 := hW0 ▸ (Box.new' #[.int .i64 f1.kind, .int .i64 f1.epoch, .int .i64 f1.seq, .int .i64 f1.letter, .slice a1A f1.pieces.length a1k, .int .i64 f1.init, .int .i64 f1.num, .int .i64 f1.count, .slice a1B f1.path.length a1l] 58 (by simp))
  have hB : Below w.heap.size w W0 := hW0 ▸ (((Below.refl _ _).alloc (by first | (simp; done) | (simp; omega)) _).alloc (by first | (simp; done) | (simp; omega)) _)
  have hlo : w.heap.size + 1 + 1 ≤ W0.heap.size := hW0 ▸ (by simp)
  clear hW0
  refine (ccut (f := P0) ((h0.keep fun b _ q => hB.block b q).widen (Nat.le_refl _) hB.size) HP0.out).mono ?_
  rintro e v0 ⟨⟨P0A, P0k, P0B, P0l, rfl, hp0⟩, hb⟩
  replace bx0 := bx0.next hb
  replace bx1 := bx1.next hb
  replace hp0 := hp0.widen (lo' := w.heap.size + 1 + 1) hlo (Nat.le_refl _)
  replace hB := hB.trans (hb.mono hB.size)
  replace hlo := Nat.le_trans hlo hb.size
  clear hb
  obtain ⟨c0, c1, c2, c3, c4, c5, c6, c7, c8⟩ := nine_cells bx0
  obtain ⟨f0, f1, f2, f3, f4, f5, f6, f7, f8⟩ := nine_free bx0
  obtain ⟨d0, d1, d2, d3, d4, d5, d6, d7, d8⟩ := nine_cells bx1
  go_wp2_with fail
  clear c0 c1 c2 c3 c4 c5 c6 c7 c8
  clear f0 f1 f2 f3 f4 f5 f6 f7 f8
  clear d0 d1 d2 d3 d4 d5 d6 d7 d8
  refine name_call fun W hW => ?_
  have qx0 : Box W (w.heap.size) #[.int .i64 P0.kind, .int .i64 P0.epoch, .int .i64 P0.seq, .int .i64 P0.letter, .slice P0A P0.pieces.length P0k, .int .i64 P0.init, .int .i64 P0.num, .int .i64 P0.count, .slice P0B P0.path.length P0l] 58 := by rw [← hW]; exact nine_box bx0
  have qx1 : Box W (w.heap.size + 1) #[.int .i64 f1.kind, .int .i64 f1.epoch, .int .i64 f1.seq, .int .i64 f1.letter, .slice a1A f1.pieces.length a1k, .int .i64 f1.init, .int .i64 f1.num, .int .i64 f1.count, .slice a1B f1.path.length a1l] 58 := by rw [← hW]; exact bx1.nine_far (by omega)
  have qp0 : FrIs false W (w.heap.size + 1 + 1) W.heap.size (.agg #[.int .i64 P0.kind, .int .i64 P0.epoch, .int .i64 P0.seq, .int .i64 P0.letter, .slice P0A P0.pieces.length P0k, .int .i64 P0.init, .int .i64 P0.num, .int .i64 P0.count, .slice P0B P0.path.length P0l]) P0 := by rw [← hW]; exact hp0.nine_far (by omega)
  have qB : Below w.heap.size w W := by rw [← hW]; exact nine_below hB (by omega)
  have qlo : w.heap.size + 1 + 1 ≤ W.heap.size := by rw [← hW]; exact Nat.le_trans hlo (Nat.le_of_eq nine_size.symm)
  clear bx0 bx1 hp0 hB hlo hW
  have bx0 := qx0
  clear qx0
  have bx1 := qx1
  clear qx1
  have hp0 := qp0
  clear qp0
  have hB := qB
  have hlo := qlo
  clear qB qlo
  obtain ⟨V0, rfl⟩ : ∃ x : World, x = W := ⟨_, rfl⟩
  refine (ccut (f := P1) ((h1.keep fun b _ q => hB.block b q).widen (Nat.le_refl _) hB.size) HP1.out).mono ?_
  rintro e v1 ⟨⟨P1A, P1k, P1B, P1l, rfl, hp1⟩, hb⟩
  replace bx0 := bx0.next hb
  replace bx1 := bx1.next hb
  replace hp0 := hp0.next hb
  replace hp1 := hp1.widen (lo' := w.heap.size + 1 + 1) hlo (Nat.le_refl _)
  replace hB := hB.trans (hb.mono hB.size)
  replace hlo := Nat.le_trans hlo hb.size
  clear hb
  obtain ⟨c0, c1, c2, c3, c4, c5, c6, c7, c8⟩ := nine_cells bx1
  obtain ⟨f0, f1, f2, f3, f4, f5, f6, f7, f8⟩ := nine_free bx1
  obtain ⟨d0, d1, d2, d3, d4, d5, d6, d7, d8⟩ := nine_cells bx0
  go_wp2_with fail
  clear c0 c1 c2 c3 c4 c5 c6 c7 c8
  clear f0 f1 f2 f3 f4 f5 f6 f7 f8
  clear d0 d1 d2 d3 d4 d5 d6 d7 d8
  refine name_call fun W hW => ?_
  have qx1 : Box W (w.heap.size + 1) #[.int .i64 P1.kind, .int .i64 P1.epoch, .int .i64 P1.seq, .int .i64 P1.letter, .slice P1A P1.pieces.length P1k, .int .i64 P1.init, .int .i64 P1.num, .int .i64 P1.count, .slice P1B P1.path.length P1l] 58 := by rw [← hW]; exact nine_box bx1
  have qx0 : Box W (w.heap.size) #[.int .i64 P0.kind, .int .i64 P0.epoch, .int .i64 P0.seq, .int .i64 P0.letter, .slice P0A P0.pieces.length P0k, .int .i64 P0.init, .int .i64 P0.num, .int .i64 P0.count, .slice P0B P0.path.length P0l] 58 := by rw [← hW]; exact bx0.nine_far (by omega)
  have qp0 : FrIs false W (w.heap.size + 1 + 1) W.heap.size (.agg #[.int .i64 P0.kind, .int .i64 P0.epoch, .int .i64 P0.seq, .int .i64 P0.letter, .slice P0A P0.pieces.length P0k, .int .i64 P0.init, .int .i64 P0.num, .int .i64 P0.count, .slice P0B P0.path.length P0l]) P0 := by rw [← hW]; exact hp0.nine_far (by omega)
  have qp1 : FrIs false W (w.heap.size + 1 + 1) W.heap.size (.agg #[.int .i64 P1.kind, .int .i64 P1.epoch, .int .i64 P1.seq, .int .i64 P1.letter, .slice P1A P1.pieces.length P1k, .int .i64 P1.init, .int .i64 P1.num, .int .i64 P1.count, .slice P1B P1.path.length P1l]) P1 := by rw [← hW]; exact hp1.nine_far (by omega)
  have qB : Below w.heap.size w W := by rw [← hW]; exact nine_below hB (by omega)
  have qlo : w.heap.size + 1 + 1 ≤ W.heap.size := by rw [← hW]; exact Nat.le_trans hlo (Nat.le_of_eq nine_size.symm)
  clear bx0 bx1 hp0 hp1 hB hlo hW
  have bx0 := qx0
  clear qx0
  have bx1 := qx1
  clear qx1
  have hp0 := qp0
  clear qp0
  have hp1 := qp1
  clear qp1
  have hB := qB
  have hlo := qlo
  clear qB qlo
  obtain ⟨W0, rfl⟩ : ∃ x : World, x = W := ⟨_, rfl⟩
  replace hp0 := hp0.zero_
  replace hp1 := hp1.zero_
  have hR := HP0.out ▸ HR.out
  have hQ := HP1.out ▸ HQ.out
  have hDZ := HP0.out ▸ HDZ.out
  have HE0 := Lib.hid (Fr.enc_yes hR)
  obtain ⟨X, hX⟩ : ∃ X, ByteArray.mk (Fr.enc P0).toArray = X := ⟨_, rfl⟩
  have hxl : X.data.toList = Fr.body P0 := by rw [← hX, ← HE0.out.2]
  have hxs : X.size = (Fr.body P0).length := by have : X.size = X.data.toList.length := (by rw [Array.length_toList]; rfl); rw [this, hxl]
  have hx2 := Fr.body_two P0
  have hxm := Fr.body_len hR
  have HX := Lib.hid hX; have HXL := Lib.hid hxl; have HXS := Lib.hid hxs; have HXM := Lib.hid hxm; clear hX hxl hxm
  have HE1 := Lib.hid (Fr.enc_yes hQ)
  obtain ⟨Y, hY⟩ : ∃ Y, ByteArray.mk (Fr.enc P1).toArray = Y := ⟨_, rfl⟩
  obtain ⟨bb, hbb⟩ : ∃ b, decide (P0 = P1) = b := ⟨_, rfl⟩
  have hxy : (X.toList == Y.toList) = bb := by
    have e1 : X.toList = Fr.body P0 := by rw [← HX.out, ByteArray.toList_mk, ← HE0.out.2]
    have e2 : Y.toList = Fr.body P1 := by rw [← hY, ByteArray.toList_mk, ← HE1.out.2]
    rw [e1, e2, ← hbb, Bool.eq_iff_iff, beq_iff_eq, decide_eq_true_iff]
    exact ⟨fun h => Fr.body_inj hR hQ h, fun h => by rw [h]⟩
  have HBB := Lib.hid hbb; have HY := Lib.hid hY; have HXY := Lib.hid hxy; clear hbb hY hxy hQ
  have HR1 := Lib.hid hR; have HD := Lib.hid hDZ; clear hR hDZ
  have hs2 : (2 : Int) ≤ (X.size : Int) := by omega
  have hs3 : ¬ (X.size : Int) < 2 := by omega
  have HS2 := Lib.hid hs2; have HS3 := Lib.hid hs3; clear hs2 hs3 hxs hx2
  obtain ⟨c0, c1, c2, c3, c4, c5, c6, c7, c8⟩ := nine_cells bx0
  refine (cenc hp0 HX.out HE0.out.1).mono ?_
  rintro e w1 ⟨rfl, hb⟩
  replace bx0 := bx0.next hb
  replace bx1 := bx1.next hb
  replace hp0 := hp0.next hb
  replace hp1 := hp1.next hb
  replace hB := hB.trans (hb.mono hB.size)
  clear hb
  obtain ⟨d0, d1, d2, d3, d4, d5, d6, d7, d8⟩ := nine_cells bx1
  go_wp2_with fail
  clear d0 d1 d2 d3 d4 d5 d6 d7 d8
  clear c0 c1 c2 c3 c4 c5 c6 c7 c8
  refine (cenc hp1 HY.out HE1.out.1).mono ?_
  rintro e w2 ⟨rfl, hb⟩
  replace bx0 := bx0.next hb
  replace bx1 := bx1.next hb
  replace hp0 := hp0.next hb
  replace hp1 := hp1.next hb
  replace hB := hB.trans (hb.mono hB.size)
  clear hb
  have hs3 := HS3.out; have hs2 := HS2.out
  go_upto_region 7 with fail
  have hxy := HXY.out
  replace bx0 := bx0.next ((Below.refl _ _).drew)
  replace bx1 := bx1.next ((Below.refl _ _).drew)
  replace hp0 := hp0.next ((Below.refl _ _).drew)
  replace hp1 := hp1.next ((Below.refl _ _).drew)
  replace hB := hB.drew
  have hE := Ext.refl (w2.drew)
  refine region_go 1664 (by kernel_rfl) ?_
  refine wpAny_go 1664 0 [0, 1, 2] 7 15 (by kernel_rfl) (by kernel_rfl) (fun _ _ _ _ _ h => h) (by kernel_rfl) (by rfl) (by rfl) (by kernel_rfl) ?_
  simp only [List.map_cons, List.map_nil, List.getD_cons_succ, List.getD_cons_zero]
  go_wp2_with fail
  change wpAnyM _ _ _ _ _ _ _ _ _ _
  refine wpAny_reads 1664 7 [3, 4] 31 13 (by kernel_rfl) (by kernel_rfl) (fun _ _ _ _ _ h => h) (by kernel_rfl) (by rfl) (by rfl) (by kernel_rfl) ?_
  simp only [List.map_cons, List.map_nil, List.getD_cons_succ, List.getD_cons_zero]
  go_wp2_with fail
  change _ → wpAnyM _ _ _ _ _ _ _ _ _ _; intro _
  refine wpAny_takeM 5 rfl (by kernel_rfl) (by rfl : 31 ||| 2 ^ 5 = 63) (by kernel_rfl) (by kernel_rfl) (by kernel_rfl) (by kernel_rfl) (fun _ _ _ h => h) (.inl ⟨by rfl, fun w => by (go_simp; try with_reducible rfl)⟩) ?_
  obtain ⟨c0, c1, c2, c3, c4, c5, c6, c7, c8⟩ := nine_cells bx0
  refine wpAny_go 1664 63 [6] 127 11 (by kernel_rfl) (by kernel_rfl) (fun _ _ _ _ _ h => h) (by kernel_rfl) (by rfl) (by rfl) (by kernel_rfl) ?_
  simp only [List.map_cons, List.map_nil, List.getD_cons_succ, List.getD_cons_zero]
  go_wp2_with fail
  change wpAnyM _ _ _ _ _ _ _ _ _ _
  clear c0 c1 c2 c3 c4 c5 c6 c7 c8
  obtain ⟨c0, c1, c2, c3, c4, c5, c6, c7, c8⟩ := nine_cells bx1
  refine wpAny_reads 1664 127 [8] 383 10 (by kernel_rfl) (by kernel_rfl) (fun _ _ _ _ _ h => h) (by kernel_rfl) (by rfl) (by rfl) (by kernel_rfl) ?_
  simp only [List.map_cons, List.map_nil, List.getD_cons_succ, List.getD_cons_zero]
  go_wp2_with fail
  change _ → wpAnyM _ _ _ _ _ _ _ _ _ _; intro _
  clear c0 c1 c2 c3 c4 c5 c6 c7 c8
  refine wpAny_oneM 7 511 (by kernel_rfl) (by kernel_rfl) (of_decide_eq_true (by kernel_rfl)) (by rfl) ?_
  simp only [List.getD_cons_succ, List.getD_cons_zero]
  go_wp2_with fail
  refine (cref hp0 HS0.out).mono ?_
  rintro e w3 ⟨⟨QA, Qk, QB, Ql, rfl, hq0⟩, hb⟩
  replace bx0 := bx0.next hb
  replace bx1 := bx1.next hb
  replace hp0 := hp0.next hb
  replace hp1 := hp1.next hb
  replace hE := hE.trans (Ext.below hb (Nat.le_refl _))
  replace hB := hB.trans (hb.mono hB.size)
  clear hb
  go_wp2_with fail
  refine ⟨fun _ => hE, ?_⟩
  refine wpAny_oneM 9 1023 (by kernel_rfl) (by kernel_rfl) (of_decide_eq_true (by kernel_rfl)) (by rfl) ?_
  simp only [List.getD_cons_succ, List.getD_cons_zero]
  go_wp2_with fail
  refine (cref hp1 HS1.out).mono ?_
  rintro e w4 ⟨⟨RA, Rk, RB, Rl, rfl, hq1⟩, hb⟩
  replace bx0 := bx0.next hb
  replace bx1 := bx1.next hb
  replace hp0 := hp0.next hb
  replace hp1 := hp1.next hb
  replace hq0 := hq0.next hb
  replace hE := hE.trans (Ext.below hb (Nat.le_refl _))
  replace hB := hB.trans (hb.mono hB.size)
  clear hb
  go_wp2_with fail
  refine ⟨fun _ => hE, ?_⟩
  refine wpAny_oneM 10 2047 (by kernel_rfl) (by kernel_rfl) (of_decide_eq_true (by kernel_rfl)) (by rfl) ?_
  simp only [List.getD_cons_succ, List.getD_cons_zero]
  go_wp2_with fail
  refine (crsame hq0 hq1 HBB.out).mono ?_
  rintro e w5 ⟨rfl, hb⟩
  replace bx0 := bx0.next hb
  replace bx1 := bx1.next hb
  replace hp0 := hp0.next hb
  replace hp1 := hp1.next hb
  replace hq0 := hq0.next hb
  replace hq1 := hq1.next hb
  replace hE := hE.trans (Ext.below hb (Nat.le_refl _))
  replace hB := hB.trans (hb.mono hB.size)
  clear hb
  go_wp2_with fail
  refine ⟨fun _ => hE, ?_⟩
  refine wpAny_go 1664 2047 [11, 12, 13, 14, 15, 16, 17] 262143 0 (by kernel_rfl) (by kernel_rfl) (fun _ _ _ _ _ h => h) (by kernel_rfl) (by rfl) (by rfl) (by kernel_rfl) ?_
  simp only [List.map_cons, List.map_nil, List.getD_cons_succ, List.getD_cons_zero]
  go_wp2_with fail
  change wpAnyM _ _ _ _ _ _ _ _ _ _
  refine wpAny_endM (by kernel_rfl) (by kernel_rfl) ?_
  clear hxy hq0 hq1
  go_upto_region 9 with fail
  refine name_wp fun W5 hW5 => ?_
  have hb : Below w5.heap.size w5 W5 := hW5 ▸ Below.refl _ _
  replace bx0 := bx0.next hb
  replace bx1 := bx1.next hb
  replace hp0 := hp0.next hb
  replace hp1 := hp1.next hb
  replace hB := hB.trans (hb.mono hB.size)
  clear hb hW5
  clear hs3
  have hw2 := HW2.out
  obtain ⟨u, hu⟩ : ∃ u, UInt8.ofNat a2.toNat = u := ⟨_, rfl⟩
  have hcu : (u.toNat : Int) = a2 := by rw [← hu]; simp; omega
  have HDU := Lib.hid (show Fr.decE (Fr.body P0 ++ [u]) ≠ 0 by rw [← hu]; exact HD.out)
  clear hw2 hu
  have rs := run_byte_string' W5 u a2 hcu
  have hxm : X.size ≤ 1000000 := by have h := HXM.out; have h2 := HXS.out; omega
  go_wp2_with fail
  clear rs hcu
  refine name_call fun W6 hW6 => ?_
  have hb : Below W5.heap.size W5 W6 := hW6 ▸ (Below.refl _ _).alloc (Nat.le_refl _) _
  replace bx0 := bx0.next hb
  replace bx1 := bx1.next hb
  replace hp0 := hp0.next hb
  replace hp1 := hp1.next hb
  replace hB := hB.trans (hb.mono hB.size)
  clear hb hW6
  have hk0 : (0 : Int) ≤ (X.size : Int) - 1 := by omega
  have hkk : (X.size : Int) - 1 ≤ (X.size : Int) := by omega
  have hk1 : X.size - 1 < (Fr.body P0).length := by have h := HXS.out; omega
  have HK1 := Lib.hid hk1; clear hk1
  refine (cdec (l := Fr.body P0 ++ [u]) (f := Fr.zero) (n := 4) _ (by rw [← HXL.out]; exact append_list X _) (by rw [List.length_append]; have h := HXM.out; simp; omega) (Fr.dec_zero HDU.out)).mono ?_
  rintro e w6 ⟨⟨DA, Dk, DB, Dl, rfl, hd⟩, hb⟩
  replace bx0 := bx0.next hb
  replace bx1 := bx1.next hb
  replace hp0 := hp0.next hb
  replace hp1 := hp1.next hb
  replace hB := hB.trans (hb.mono hB.size)
  clear hb
  dsimp only [Fr.zero, List.length_nil] at hd ⊢
  clear hd
  go_wp2_with fail
  refine name_call fun W7 hW7 => ?_
  have bx7 : Box W7 w6.heap.size #[.int .i64 0, .int .i64 0, .int .i64 0, .int .i64 0, .slice DA 0 Dk, .int .i64 0, .int .i64 0, .int .i64 0, .slice DB 0 Dl] 58 := hW7 ▸ Box.new _ _ _
  have hb : Below w6.heap.size w6 W7 := hW7 ▸ (Below.refl _ _).alloc (Nat.le_refl _) _
  replace bx0 := bx0.next hb
  replace bx1 := bx1.next hb
  replace hp0 := hp0.next hb
  replace hp1 := hp1.next hb
  replace hB := hB.trans (hb.mono hB.size)
  clear hb hW7
  refine (cdec (l := (Fr.body P0).take (X.size - 1)) (f := Fr.zero) (n := 4) _ (by rw [extract_take, HXL.out]) (by have h := HXM.out; simp; omega) (Fr.dec_less HR1.out HK1.out)).mono ?_
  rintro e w7 ⟨⟨EA, Ek, EB, El, rfl, he⟩, hb⟩
  replace bx0 := bx0.next hb
  replace bx1 := bx1.next hb
  replace hp0 := hp0.next hb
  replace hp1 := hp1.next hb
  replace bx7 := bx7.next hb
  replace hB := hB.trans (hb.mono hB.size)
  clear hb
  dsimp only [Fr.zero, List.length_nil] at he ⊢
  clear he
  clear hk0 hkk hxm
  go_upto_region 11 with fail
  refine name_wp fun W8 hW8 => ?_
  have hb : Below w7.heap.size w7 W8 := hW8 ▸ (Below.refl _ _).alloc (Nat.le_refl _) _
  replace bx0 := bx0.next hb
  replace bx1 := bx1.next hb
  replace hp0 := hp0.next hb
  replace hp1 := hp1.next hb
  replace bx7 := bx7.next hb
  replace hB := hB.trans (hb.mono hB.size)
  clear hb hW8
  replace bx0 := bx0.next ((Below.refl _ _).drew)
  replace bx1 := bx1.next ((Below.refl _ _).drew)
  replace hp0 := hp0.next ((Below.refl _ _).drew)
  replace hp1 := hp1.next ((Below.refl _ _).drew)
  replace bx7 := bx7.next ((Below.refl _ _).drew)
  replace hB := hB.drew
  have hE := Ext.refl (W8.drew)
  refine region_go 32976 (by kernel_rfl) ?_
  refine wpAny_go 32976 0 [0, 1, 2, 3] 15 14 (by kernel_rfl) (by kernel_rfl) (fun _ _ _ _ _ h => h) (by kernel_rfl) (by rfl) (by rfl) (by kernel_rfl) ?_
  simp only [List.map_cons, List.map_nil, List.getD_cons_succ, List.getD_cons_zero]
  go_wp2_with fail
  change wpAnyM _ _ _ _ _ _ _ _ _ _
  refine wpAny_reads 32976 15 [5] 47 13 (by kernel_rfl) (by kernel_rfl) (fun _ _ _ _ _ h => h) (by kernel_rfl) (by rfl) (by rfl) (by kernel_rfl) ?_
  simp only [List.map_cons, List.map_nil, List.getD_cons_succ, List.getD_cons_zero]
  go_wp2_with fail
  change _ → wpAnyM _ _ _ _ _ _ _ _ _ _; intro _
  refine wpAny_oneM 4 63 (by kernel_rfl) (by kernel_rfl) (of_decide_eq_true (by kernel_rfl)) (by rfl) ?_
  simp only [List.getD_cons_succ, List.getD_cons_zero]
  go_wp2_with fail
  refine ⟨fun _ => hE, ?_⟩
  refine wpAny_oneM 6 127 (by kernel_rfl) (by kernel_rfl) (of_decide_eq_true (by kernel_rfl)) (by rfl) ?_
  simp only [List.getD_cons_succ, List.getD_cons_zero]
  go_wp2_with fail
  refine ⟨fun _ => hE, ?_⟩
  refine wpAny_oneM 7 255 (by kernel_rfl) (by kernel_rfl) (of_decide_eq_true (by kernel_rfl)) (by rfl) ?_
  simp only [List.getD_cons_succ, List.getD_cons_zero]
  go_wp2_with fail
  refine ⟨fun _ => hE, ?_⟩
  refine wpAny_go 32976 255 [8, 9, 10, 11, 12, 13, 14] 32767 3 (by kernel_rfl) (by kernel_rfl) (fun _ _ _ _ _ h => h) (by kernel_rfl) (by rfl) (by rfl) (by kernel_rfl) ?_
  simp only [List.map_cons, List.map_nil, List.getD_cons_succ, List.getD_cons_zero]
  go_wp2_with fail
  change wpAnyM _ _ _ _ _ _ _ _ _ _
  refine wpAny_oneM 15 65535 (by kernel_rfl) (by kernel_rfl) (of_decide_eq_true (by kernel_rfl)) (by rfl) ?_
  simp only [List.getD_cons_succ, List.getD_cons_zero]
  go_wp2_with fail
  refine (fixed7_any _).mono ?_
  rintro e w8 ⟨rfl, hb⟩
  replace bx0 := bx0.next hb
  replace bx1 := bx1.next hb
  replace hp0 := hp0.next hb
  replace hp1 := hp1.next hb
  replace bx7 := bx7.next hb
  replace hE := hE.trans (Ext.below hb (Nat.le_refl _))
  replace hB := hB.trans (hb.mono hB.size)
  clear hb
  go_wp2_with fail
  refine ⟨fun _ => hE, ?_⟩
  refine wpAny_go 32976 65535 [16, 17] 262143 0 (by kernel_rfl) (by kernel_rfl) (fun _ _ _ _ _ h => h) (by kernel_rfl) (by rfl) (by rfl) (by kernel_rfl) ?_
  simp only [List.map_cons, List.map_nil, List.getD_cons_succ, List.getD_cons_zero]
  go_wp2_with fail
  change wpAnyM _ _ _ _ _ _ _ _ _ _
  refine wpAny_endM (by kernel_rfl) (by kernel_rfl) ?_
  go_wp2_with fail
  go_ret
  exact ⟨rfl, hB⟩

set_option maxRecDepth 100000 in
set_option maxHeartbeats 8000000 in
theorem walk_yny (v0 : Value) (f0 : Fr) (v1 : Value) (f1 : Fr) (a2 : Int) (hw2 : 0 ≤ a2 ∧ a2 ≤ 255) (w : World) (h0 : FrIs false w 0 w.heap.size v0 f0) (h1 : FrIs false w 0 w.heap.size v1 f1) (hr : Fr.right (Fr.cut f0) = true) (hq : Fr.right (Fr.cut f1) = false) (hd : Fr.decE (Fr.body (Fr.cut f0) ++ [UInt8.ofNat a2.toNat]) = 0) :
    Calls Try.prog 11 #[v0, v1, .int .u8 a2] w fun x w' => x = .returned (.bool true) ∧ Below w.heap.size w w' := by
  have HR := Lib.hid hr; clear hr
  have HQ := Lib.hid hq; have HDZ := Lib.hid hd; have HW2 := Lib.hid hw2; clear hq hd hw2
  obtain ⟨a0A, a0B, a0k, a0l, rfl, _, _⟩ := id h0
  obtain ⟨P0, hP0⟩ : ∃ P, Fr.cut f0 = P := ⟨_, rfl⟩
  have hs0 : P0.Small := hP0 ▸ Fr.cut_small _
  have HP0 := Lib.hid hP0; have HS0 := Lib.hid hs0; clear hP0 hs0
  obtain ⟨a1A, a1B, a1k, a1l, rfl, _, _⟩ := id h1
  obtain ⟨P1, hP1⟩ : ∃ P, Fr.cut f1 = P := ⟨_, rfl⟩
  have hs1 : P1.Small := hP1 ▸ Fr.cut_small _
  have HP1 := Lib.hid hP1; have HS1 := Lib.hid hs1; clear hP1 hs1
  go_enter Try.func11, Try.ntmps11
  try simp only [List.append_eq, List.cons_append, List.nil_append]
  go_wp2_with fail
  refine name_call fun W0 hW0 => ?_
  have bx0 : Box W0 (w.heap.size) #[.int .i64 f0.kind, .int .i64 f0.epoch, .int .i64 f0.seq, .int .i64 f0.letter, .slice a0A f0.pieces.length a0k, .int .i64 f0.init, .int .i64 f0.num, .int .i64 f0.count, .slice a0B f0.path.length a0l] 58 := hW0 ▸ ((Box.new' #[.int .i64 f0.kind, .int .i64 f0.epoch, .int .i64 f0.seq, .int .i64 f0.letter, .slice a0A f0.pieces.length a0k, .int .i64 f0.init, .int .i64 f0.num, .int .i64 f0.count, .slice a0B f0.path.length a0l] 58 (by simp)).alloc _)
  have bx1 : Box W0 (w.heap.size + 1) #[.int .i64 f1.kind, .int .i64 f1.epoch, .int .i64 f1.seq, .int .i64 f1.letter, .slice a1A f1.pieces.length a1k, .int .i64 f1.init, .int .i64 f1.num, .int .i64 f1.count, .slice a1B f1.path.length a1l] 58 := hW0 ▸ (Box.new' #[.int .i64 f1.kind, .int .i64 f1.epoch, .int .i64 f1.seq, .int .i64 f1.letter, .slice a1A f1.pieces.length a1k, .int .i64 f1.init, .int .i64 f1.num, .int .i64 f1.count, .slice a1B f1.path.length a1l] 58 (by simp))
  have hB : Below w.heap.size w W0 := hW0 ▸ (((Below.refl _ _).alloc (by first | (simp; done) | (simp; omega)) _).alloc (by first | (simp; done) | (simp; omega)) _)
  have hlo : w.heap.size + 1 + 1 ≤ W0.heap.size := hW0 ▸ (by simp)
  clear hW0
  refine (ccut (f := P0) ((h0.keep fun b _ q => hB.block b q).widen (Nat.le_refl _) hB.size) HP0.out).mono ?_
  rintro e v0 ⟨⟨P0A, P0k, P0B, P0l, rfl, hp0⟩, hb⟩
  replace bx0 := bx0.next hb
  replace bx1 := bx1.next hb
  replace hp0 := hp0.widen (lo' := w.heap.size + 1 + 1) hlo (Nat.le_refl _)
  replace hB := hB.trans (hb.mono hB.size)
  replace hlo := Nat.le_trans hlo hb.size
  clear hb
  obtain ⟨c0, c1, c2, c3, c4, c5, c6, c7, c8⟩ := nine_cells bx0
  obtain ⟨f0, f1, f2, f3, f4, f5, f6, f7, f8⟩ := nine_free bx0
  obtain ⟨d0, d1, d2, d3, d4, d5, d6, d7, d8⟩ := nine_cells bx1
  go_wp2_with fail
  clear c0 c1 c2 c3 c4 c5 c6 c7 c8
  clear f0 f1 f2 f3 f4 f5 f6 f7 f8
  clear d0 d1 d2 d3 d4 d5 d6 d7 d8
  refine name_call fun W hW => ?_
  have qx0 : Box W (w.heap.size) #[.int .i64 P0.kind, .int .i64 P0.epoch, .int .i64 P0.seq, .int .i64 P0.letter, .slice P0A P0.pieces.length P0k, .int .i64 P0.init, .int .i64 P0.num, .int .i64 P0.count, .slice P0B P0.path.length P0l] 58 := by rw [← hW]; exact nine_box bx0
  have qx1 : Box W (w.heap.size + 1) #[.int .i64 f1.kind, .int .i64 f1.epoch, .int .i64 f1.seq, .int .i64 f1.letter, .slice a1A f1.pieces.length a1k, .int .i64 f1.init, .int .i64 f1.num, .int .i64 f1.count, .slice a1B f1.path.length a1l] 58 := by rw [← hW]; exact bx1.nine_far (by omega)
  have qp0 : FrIs false W (w.heap.size + 1 + 1) W.heap.size (.agg #[.int .i64 P0.kind, .int .i64 P0.epoch, .int .i64 P0.seq, .int .i64 P0.letter, .slice P0A P0.pieces.length P0k, .int .i64 P0.init, .int .i64 P0.num, .int .i64 P0.count, .slice P0B P0.path.length P0l]) P0 := by rw [← hW]; exact hp0.nine_far (by omega)
  have qB : Below w.heap.size w W := by rw [← hW]; exact nine_below hB (by omega)
  have qlo : w.heap.size + 1 + 1 ≤ W.heap.size := by rw [← hW]; exact Nat.le_trans hlo (Nat.le_of_eq nine_size.symm)
  clear bx0 bx1 hp0 hB hlo hW
  have bx0 := qx0
  clear qx0
  have bx1 := qx1
  clear qx1
  have hp0 := qp0
  clear qp0
  have hB := qB
  have hlo := qlo
  clear qB qlo
  obtain ⟨V0, rfl⟩ : ∃ x : World, x = W := ⟨_, rfl⟩
  refine (ccut (f := P1) ((h1.keep fun b _ q => hB.block b q).widen (Nat.le_refl _) hB.size) HP1.out).mono ?_
  rintro e v1 ⟨⟨P1A, P1k, P1B, P1l, rfl, hp1⟩, hb⟩
  replace bx0 := bx0.next hb
  replace bx1 := bx1.next hb
  replace hp0 := hp0.next hb
  replace hp1 := hp1.widen (lo' := w.heap.size + 1 + 1) hlo (Nat.le_refl _)
  replace hB := hB.trans (hb.mono hB.size)
  replace hlo := Nat.le_trans hlo hb.size
  clear hb
  obtain ⟨c0, c1, c2, c3, c4, c5, c6, c7, c8⟩ := nine_cells bx1
  obtain ⟨f0, f1, f2, f3, f4, f5, f6, f7, f8⟩ := nine_free bx1
  obtain ⟨d0, d1, d2, d3, d4, d5, d6, d7, d8⟩ := nine_cells bx0
  go_wp2_with fail
  clear c0 c1 c2 c3 c4 c5 c6 c7 c8
  clear f0 f1 f2 f3 f4 f5 f6 f7 f8
  clear d0 d1 d2 d3 d4 d5 d6 d7 d8
  refine name_call fun W hW => ?_
  have qx1 : Box W (w.heap.size + 1) #[.int .i64 P1.kind, .int .i64 P1.epoch, .int .i64 P1.seq, .int .i64 P1.letter, .slice P1A P1.pieces.length P1k, .int .i64 P1.init, .int .i64 P1.num, .int .i64 P1.count, .slice P1B P1.path.length P1l] 58 := by rw [← hW]; exact nine_box bx1
  have qx0 : Box W (w.heap.size) #[.int .i64 P0.kind, .int .i64 P0.epoch, .int .i64 P0.seq, .int .i64 P0.letter, .slice P0A P0.pieces.length P0k, .int .i64 P0.init, .int .i64 P0.num, .int .i64 P0.count, .slice P0B P0.path.length P0l] 58 := by rw [← hW]; exact bx0.nine_far (by omega)
  have qp0 : FrIs false W (w.heap.size + 1 + 1) W.heap.size (.agg #[.int .i64 P0.kind, .int .i64 P0.epoch, .int .i64 P0.seq, .int .i64 P0.letter, .slice P0A P0.pieces.length P0k, .int .i64 P0.init, .int .i64 P0.num, .int .i64 P0.count, .slice P0B P0.path.length P0l]) P0 := by rw [← hW]; exact hp0.nine_far (by omega)
  have qp1 : FrIs false W (w.heap.size + 1 + 1) W.heap.size (.agg #[.int .i64 P1.kind, .int .i64 P1.epoch, .int .i64 P1.seq, .int .i64 P1.letter, .slice P1A P1.pieces.length P1k, .int .i64 P1.init, .int .i64 P1.num, .int .i64 P1.count, .slice P1B P1.path.length P1l]) P1 := by rw [← hW]; exact hp1.nine_far (by omega)
  have qB : Below w.heap.size w W := by rw [← hW]; exact nine_below hB (by omega)
  have qlo : w.heap.size + 1 + 1 ≤ W.heap.size := by rw [← hW]; exact Nat.le_trans hlo (Nat.le_of_eq nine_size.symm)
  clear bx0 bx1 hp0 hp1 hB hlo hW
  have bx0 := qx0
  clear qx0
  have bx1 := qx1
  clear qx1
  have hp0 := qp0
  clear qp0
  have hp1 := qp1
  clear qp1
  have hB := qB
  have hlo := qlo
  clear qB qlo
  obtain ⟨W0, rfl⟩ : ∃ x : World, x = W := ⟨_, rfl⟩
  replace hp0 := hp0.zero_
  replace hp1 := hp1.zero_
  have hR := HP0.out ▸ HR.out
  have hQ := HP1.out ▸ HQ.out
  have hDZ := HP0.out ▸ HDZ.out
  have HE0 := Lib.hid (Fr.enc_yes hR)
  obtain ⟨X, hX⟩ : ∃ X, ByteArray.mk (Fr.enc P0).toArray = X := ⟨_, rfl⟩
  have hxl : X.data.toList = Fr.body P0 := by rw [← hX, ← HE0.out.2]
  have hxs : X.size = (Fr.body P0).length := by have : X.size = X.data.toList.length := (by rw [Array.length_toList]; rfl); rw [this, hxl]
  have hx2 := Fr.body_two P0
  have hxm := Fr.body_len hR
  have HX := Lib.hid hX; have HXL := Lib.hid hxl; have HXS := Lib.hid hxs; have HXM := Lib.hid hxm; clear hX hxl hxm
  have HE1 := Lib.hid (Fr.enc_not hQ); clear hQ
  have HR1 := Lib.hid hR; have HD := Lib.hid hDZ; clear hR hDZ
  have hs2 : (2 : Int) ≤ (X.size : Int) := by omega
  have hs3 : ¬ (X.size : Int) < 2 := by omega
  have HS2 := Lib.hid hs2; have HS3 := Lib.hid hs3; clear hs2 hs3 hxs hx2
  obtain ⟨c0, c1, c2, c3, c4, c5, c6, c7, c8⟩ := nine_cells bx0
  refine (cenc hp0 HX.out HE0.out.1).mono ?_
  rintro e w1 ⟨rfl, hb⟩
  replace bx0 := bx0.next hb
  replace bx1 := bx1.next hb
  replace hp0 := hp0.next hb
  replace hp1 := hp1.next hb
  replace hB := hB.trans (hb.mono hB.size)
  clear hb
  obtain ⟨d0, d1, d2, d3, d4, d5, d6, d7, d8⟩ := nine_cells bx1
  go_wp2_with fail
  clear d0 d1 d2 d3 d4 d5 d6 d7 d8
  clear c0 c1 c2 c3 c4 c5 c6 c7 c8
  refine (cenc (S := ⟨#[]⟩) hp1 (by rw [HE1.out.2]) HE1.out.1).mono ?_
  rintro e w2 ⟨rfl, hb⟩
  replace bx0 := bx0.next hb
  replace bx1 := bx1.next hb
  replace hp0 := hp0.next hb
  replace hp1 := hp1.next hb
  replace hB := hB.trans (hb.mono hB.size)
  clear hb
  have hs3 := HS3.out; have hs2 := HS2.out
  go_upto_region 7 with fail
  replace bx0 := bx0.next ((Below.refl _ _).drew)
  replace bx1 := bx1.next ((Below.refl _ _).drew)
  replace hp0 := hp0.next ((Below.refl _ _).drew)
  replace hp1 := hp1.next ((Below.refl _ _).drew)
  replace hB := hB.drew
  have hE := Ext.refl (w2.drew)
  refine region_go 1664 (by kernel_rfl) ?_
  refine wpAny_go 1664 0 [0, 1, 2] 7 15 (by kernel_rfl) (by kernel_rfl) (fun _ _ _ _ _ h => h) (by kernel_rfl) (by rfl) (by rfl) (by kernel_rfl) ?_
  simp only [List.map_cons, List.map_nil, List.getD_cons_succ, List.getD_cons_zero]
  go_wp2_with fail
  change wpAnyM _ _ _ _ _ _ _ _ _ _
  refine wpAny_reads 1664 7 [3, 4] 31 13 (by kernel_rfl) (by kernel_rfl) (fun _ _ _ _ _ h => h) (by kernel_rfl) (by rfl) (by rfl) (by kernel_rfl) ?_
  simp only [List.map_cons, List.map_nil, List.getD_cons_succ, List.getD_cons_zero]
  go_wp2_with fail
  change _ → wpAnyM _ _ _ _ _ _ _ _ _ _; intro _
  refine wpAny_takeM 5 rfl (by kernel_rfl) (by rfl : 31 ||| 2 ^ 5 = 63) (by kernel_rfl) (by kernel_rfl) (by kernel_rfl) (by kernel_rfl) (fun _ _ _ h => h) (.inr ⟨by rfl, rfl⟩) ?_
  refine wpAny_go 1664 63 [6] 127 11 (by kernel_rfl) (by kernel_rfl) (fun _ _ _ _ _ h => h) (by kernel_rfl) (by rfl) (by rfl) (by kernel_rfl) ?_
  simp only [List.map_cons, List.map_nil, List.getD_cons_succ, List.getD_cons_zero]
  go_wp2_with fail
  change wpAnyM _ _ _ _ _ _ _ _ _ _
  refine wpAny_reads 1664 127 [8] 383 10 (by kernel_rfl) (by kernel_rfl) (fun _ _ _ _ _ h => h) (by kernel_rfl) (by rfl) (by rfl) (by kernel_rfl) ?_
  simp only [List.map_cons, List.map_nil, List.getD_cons_succ, List.getD_cons_zero]
  go_wp2_with fail
  change _ → wpAnyM _ _ _ _ _ _ _ _ _ _; intro _
  refine wpAny_oneM 7 511 (by kernel_rfl) (by kernel_rfl) (of_decide_eq_true (by kernel_rfl)) (by rfl) ?_
  simp only [List.getD_cons_succ, List.getD_cons_zero]
  go_wp2_with fail
  refine ⟨fun _ => hE, ?_⟩
  refine wpAny_oneM 9 1023 (by kernel_rfl) (by kernel_rfl) (of_decide_eq_true (by kernel_rfl)) (by rfl) ?_
  simp only [List.getD_cons_succ, List.getD_cons_zero]
  go_wp2_with fail
  refine ⟨fun _ => hE, ?_⟩
  refine wpAny_oneM 10 2047 (by kernel_rfl) (by kernel_rfl) (of_decide_eq_true (by kernel_rfl)) (by rfl) ?_
  simp only [List.getD_cons_succ, List.getD_cons_zero]
  go_wp2_with fail
  refine ⟨fun _ => hE, ?_⟩
  refine wpAny_go 1664 2047 [11, 12, 13, 14, 15, 16, 17] 262143 0 (by kernel_rfl) (by kernel_rfl) (fun _ _ _ _ _ h => h) (by kernel_rfl) (by rfl) (by rfl) (by kernel_rfl) ?_
  simp only [List.map_cons, List.map_nil, List.getD_cons_succ, List.getD_cons_zero]
  go_wp2_with fail
  change wpAnyM _ _ _ _ _ _ _ _ _ _
  refine wpAny_endM (by kernel_rfl) (by kernel_rfl) ?_
  go_upto_region 9 with fail
  refine name_wp fun W5 hW5 => ?_
  have hb : Below w2.drew.heap.size w2.drew W5 := hW5 ▸ Below.refl _ _
  replace bx0 := bx0.next hb
  replace bx1 := bx1.next hb
  replace hp0 := hp0.next hb
  replace hp1 := hp1.next hb
  replace hB := hB.trans (hb.mono hB.size)
  clear hb hW5
  clear hs3
  have hw2 := HW2.out
  obtain ⟨u, hu⟩ : ∃ u, UInt8.ofNat a2.toNat = u := ⟨_, rfl⟩
  have hcu : (u.toNat : Int) = a2 := by rw [← hu]; simp; omega
  have HDU := Lib.hid (show Fr.decE (Fr.body P0 ++ [u]) = 0 by rw [← hu]; exact HD.out)
  clear hw2 hu
  have rs := run_byte_string' W5 u a2 hcu
  have hxm : X.size ≤ 1000000 := by have h := HXM.out; have h2 := HXS.out; omega
  go_wp2_with fail
  clear rs hcu
  refine name_call fun W6 hW6 => ?_
  have hb : Below W5.heap.size W5 W6 := hW6 ▸ (Below.refl _ _).alloc (Nat.le_refl _) _
  replace bx0 := bx0.next hb
  replace bx1 := bx1.next hb
  replace hp0 := hp0.next hb
  replace hp1 := hp1.next hb
  replace hB := hB.trans (hb.mono hB.size)
  clear hb hW6
  have hk0 : (0 : Int) ≤ (X.size : Int) - 1 := by omega
  have hkk : (X.size : Int) - 1 ≤ (X.size : Int) := by omega
  have hk1 : X.size - 1 < (Fr.body P0).length := by have h := HXS.out; omega
  have HK1 := Lib.hid hk1; clear hk1
  refine (cdec (l := Fr.body P0 ++ [u]) (f := Fr.dec (Fr.body P0 ++ [u])) (n := 0) _ (by rw [← HXL.out]; exact append_list X _) (by rw [List.length_append]; have h := HXM.out; simp; omega) ⟨rfl, HDU.out⟩).mono ?_
  rintro e w3 ⟨⟨DA, Dk, DB, Dl, rfl, hd⟩, hb⟩
  replace bx0 := bx0.next hb
  replace bx1 := bx1.next hb
  replace hp0 := hp0.next hb
  replace hp1 := hp1.next hb
  replace hB := hB.trans (hb.mono hB.size)
  clear hb
  obtain ⟨D, hD⟩ : ∃ D, Fr.dec (Fr.body P0 ++ [u]) = D := ⟨_, rfl⟩
  have hdm := Fr.dec_more HDU.out
  rw [hD] at hd hdm ⊢
  have HDM := Lib.hid hdm; clear hD hdm
  go_wp2_with fail
  refine name_call fun W7 hW7 => ?_
  have bx7 : Box W7 w3.heap.size #[.int .i64 D.kind, .int .i64 D.epoch, .int .i64 D.seq, .int .i64 D.letter, .slice DA D.pieces.length Dk, .int .i64 D.init, .int .i64 D.num, .int .i64 D.count, .slice DB D.path.length Dl] 58 := hW7 ▸ Box.new _ _ _
  have hb : Below w3.heap.size w3 W7 := hW7 ▸ (Below.refl _ _).alloc (Nat.le_refl _) _
  replace bx0 := bx0.next hb
  replace bx1 := bx1.next hb
  replace hp0 := hp0.next hb
  replace hp1 := hp1.next hb
  replace hd := hd.next hb
  replace hB := hB.trans (hb.mono hB.size)
  clear hb hW7
  refine (cdec (l := (Fr.body P0).take (X.size - 1)) (f := Fr.zero) (n := 4) _ (by rw [extract_take, HXL.out]) (by have h := HXM.out; simp; omega) (Fr.dec_less HR1.out HK1.out)).mono ?_
  rintro e w4 ⟨⟨EA, Ek, EB, El, rfl, he⟩, hb⟩
  replace bx0 := bx0.next hb
  replace bx1 := bx1.next hb
  replace hp0 := hp0.next hb
  replace hp1 := hp1.next hb
  replace hd := hd.next hb
  replace bx7 := bx7.next hb
  replace hB := hB.trans (hb.mono hB.size)
  clear hb
  dsimp only [Fr.zero, List.length_nil] at he ⊢
  clear he
  clear hk0 hkk hxm
  go_upto_region 11 with fail
  refine name_wp fun W8 hW8 => ?_
  have hb : Below w4.heap.size w4 W8 := hW8 ▸ (Below.refl _ _).alloc (Nat.le_refl _) _
  replace bx0 := bx0.next hb
  replace bx1 := bx1.next hb
  replace hp0 := hp0.next hb
  replace hp1 := hp1.next hb
  replace hd := hd.next hb
  replace bx7 := bx7.next hb
  replace hB := hB.trans (hb.mono hB.size)
  clear hb hW8
  replace bx0 := bx0.next ((Below.refl _ _).drew)
  replace bx1 := bx1.next ((Below.refl _ _).drew)
  replace hp0 := hp0.next ((Below.refl _ _).drew)
  replace hp1 := hp1.next ((Below.refl _ _).drew)
  replace hd := hd.next ((Below.refl _ _).drew)
  replace bx7 := bx7.next ((Below.refl _ _).drew)
  replace hB := hB.drew
  have hE := Ext.refl (W8.drew)
  refine region_go 32976 (by kernel_rfl) ?_
  obtain ⟨c0, c1, c2, c3, c4, c5, c6, c7, c8⟩ := nine_cells bx7
  refine wpAny_go 32976 0 [0, 1, 2, 3] 15 14 (by kernel_rfl) (by kernel_rfl) (fun _ _ _ _ _ h => h) (by kernel_rfl) (by rfl) (by rfl) (by kernel_rfl) ?_
  simp only [List.map_cons, List.map_nil, List.getD_cons_succ, List.getD_cons_zero]
  go_wp2_with fail
  change wpAnyM _ _ _ _ _ _ _ _ _ _
  clear c0 c1 c2 c3 c4 c5 c6 c7 c8
  obtain ⟨c0, c1, c2, c3, c4, c5, c6, c7, c8⟩ := nine_cells bx0
  refine wpAny_reads 32976 15 [5] 47 13 (by kernel_rfl) (by kernel_rfl) (fun _ _ _ _ _ h => h) (by kernel_rfl) (by rfl) (by rfl) (by kernel_rfl) ?_
  simp only [List.map_cons, List.map_nil, List.getD_cons_succ, List.getD_cons_zero]
  go_wp2_with fail
  change _ → wpAnyM _ _ _ _ _ _ _ _ _ _; intro _
  clear c0 c1 c2 c3 c4 c5 c6 c7 c8
  refine wpAny_oneM 4 63 (by kernel_rfl) (by kernel_rfl) (of_decide_eq_true (by kernel_rfl)) (by rfl) ?_
  simp only [List.getD_cons_succ, List.getD_cons_zero]
  go_wp2_with fail
  refine (cref2 hd (by have h := Fr.right_len HDM.out.1; omega)).mono ?_
  rintro e w5 ⟨⟨GA, Gk, GB, Gl, rfl, hg0⟩, hb⟩
  replace bx0 := bx0.next hb
  replace bx1 := bx1.next hb
  replace hp0 := hp0.next hb
  replace hp1 := hp1.next hb
  replace hd := hd.next hb
  replace bx7 := bx7.next hb
  replace hE := hE.trans (Ext.below hb (Nat.le_refl _))
  replace hB := hB.trans (hb.mono hB.size)
  clear hb
  go_wp2_with fail
  refine ⟨fun _ => hE, ?_⟩
  refine wpAny_oneM 6 127 (by kernel_rfl) (by kernel_rfl) (of_decide_eq_true (by kernel_rfl)) (by rfl) ?_
  simp only [List.getD_cons_succ, List.getD_cons_zero]
  go_wp2_with fail
  refine (cref hp0 HS0.out).mono ?_
  rintro e w6 ⟨⟨HA, Hk, HB, Hl, rfl, hg1⟩, hb⟩
  replace bx0 := bx0.next hb
  replace bx1 := bx1.next hb
  replace hp0 := hp0.next hb
  replace hp1 := hp1.next hb
  replace hd := hd.next hb
  replace bx7 := bx7.next hb
  replace hg0 := hg0.next hb
  replace hE := hE.trans (Ext.below hb (Nat.le_refl _))
  replace hB := hB.trans (hb.mono hB.size)
  clear hb
  go_wp2_with fail
  refine ⟨fun _ => hE, ?_⟩
  refine wpAny_oneM 7 255 (by kernel_rfl) (by kernel_rfl) (of_decide_eq_true (by kernel_rfl)) (by rfl) ?_
  simp only [List.getD_cons_succ, List.getD_cons_zero]
  go_wp2_with fail
  refine (crsame hg0 hg1 (decide_eq_false HDM.out.2)).mono ?_
  rintro e w7 ⟨rfl, hb⟩
  replace bx0 := bx0.next hb
  replace bx1 := bx1.next hb
  replace hp0 := hp0.next hb
  replace hp1 := hp1.next hb
  replace hd := hd.next hb
  replace bx7 := bx7.next hb
  replace hg0 := hg0.next hb
  replace hg1 := hg1.next hb
  replace hE := hE.trans (Ext.below hb (Nat.le_refl _))
  replace hB := hB.trans (hb.mono hB.size)
  clear hb
  go_wp2_with fail
  refine ⟨fun _ => hE, ?_⟩
  refine wpAny_go 32976 255 [8, 9, 10, 11, 12, 13, 14] 32767 3 (by kernel_rfl) (by kernel_rfl) (fun _ _ _ _ _ h => h) (by kernel_rfl) (by rfl) (by rfl) (by kernel_rfl) ?_
  simp only [List.map_cons, List.map_nil, List.getD_cons_succ, List.getD_cons_zero]
  go_wp2_with fail
  change wpAnyM _ _ _ _ _ _ _ _ _ _
  refine wpAny_oneM 15 65535 (by kernel_rfl) (by kernel_rfl) (of_decide_eq_true (by kernel_rfl)) (by rfl) ?_
  simp only [List.getD_cons_succ, List.getD_cons_zero]
  go_wp2_with fail
  refine (fixed7_any _).mono ?_
  rintro e w8 ⟨rfl, hb⟩
  replace bx0 := bx0.next hb
  replace bx1 := bx1.next hb
  replace hp0 := hp0.next hb
  replace hp1 := hp1.next hb
  replace hd := hd.next hb
  replace bx7 := bx7.next hb
  replace hg0 := hg0.next hb
  replace hg1 := hg1.next hb
  replace hE := hE.trans (Ext.below hb (Nat.le_refl _))
  replace hB := hB.trans (hb.mono hB.size)
  clear hb
  go_wp2_with fail
  refine ⟨fun _ => hE, ?_⟩
  refine wpAny_go 32976 65535 [16, 17] 262143 0 (by kernel_rfl) (by kernel_rfl) (fun _ _ _ _ _ h => h) (by kernel_rfl) (by rfl) (by rfl) (by kernel_rfl) ?_
  simp only [List.map_cons, List.map_nil, List.getD_cons_succ, List.getD_cons_zero]
  go_wp2_with fail
  change wpAnyM _ _ _ _ _ _ _ _ _ _
  refine wpAny_endM (by kernel_rfl) (by kernel_rfl) ?_
  go_wp2_with fail
  go_ret
  exact ⟨rfl, hB⟩

set_option maxRecDepth 100000 in
set_option maxHeartbeats 8000000 in
theorem walk_yyy (v0 : Value) (f0 : Fr) (v1 : Value) (f1 : Fr) (a2 : Int) (hw2 : 0 ≤ a2 ∧ a2 ≤ 255) (w : World) (h0 : FrIs false w 0 w.heap.size v0 f0) (h1 : FrIs false w 0 w.heap.size v1 f1) (hr : Fr.right (Fr.cut f0) = true) (hq : Fr.right (Fr.cut f1) = true) (hd : Fr.decE (Fr.body (Fr.cut f0) ++ [UInt8.ofNat a2.toNat]) = 0) :
    Calls Try.prog 11 #[v0, v1, .int .u8 a2] w fun x w' => x = .returned (.bool true) ∧ Below w.heap.size w w' := by
  have HR := Lib.hid hr; clear hr
  have HQ := Lib.hid hq; have HDZ := Lib.hid hd; have HW2 := Lib.hid hw2; clear hq hd hw2
  obtain ⟨a0A, a0B, a0k, a0l, rfl, _, _⟩ := id h0
  obtain ⟨P0, hP0⟩ : ∃ P, Fr.cut f0 = P := ⟨_, rfl⟩
  have hs0 : P0.Small := hP0 ▸ Fr.cut_small _
  have HP0 := Lib.hid hP0; have HS0 := Lib.hid hs0; clear hP0 hs0
  obtain ⟨a1A, a1B, a1k, a1l, rfl, _, _⟩ := id h1
  obtain ⟨P1, hP1⟩ : ∃ P, Fr.cut f1 = P := ⟨_, rfl⟩
  have hs1 : P1.Small := hP1 ▸ Fr.cut_small _
  have HP1 := Lib.hid hP1; have HS1 := Lib.hid hs1; clear hP1 hs1
  go_enter Try.func11, Try.ntmps11
  try simp only [List.append_eq, List.cons_append, List.nil_append]
  go_wp2_with fail
  refine name_call fun W0 hW0 => ?_
  have bx0 : Box W0 (w.heap.size) #[.int .i64 f0.kind, .int .i64 f0.epoch, .int .i64 f0.seq, .int .i64 f0.letter, .slice a0A f0.pieces.length a0k, .int .i64 f0.init, .int .i64 f0.num, .int .i64 f0.count, .slice a0B f0.path.length a0l] 58 := hW0 ▸ ((Box.new' #[.int .i64 f0.kind, .int .i64 f0.epoch, .int .i64 f0.seq, .int .i64 f0.letter, .slice a0A f0.pieces.length a0k, .int .i64 f0.init, .int .i64 f0.num, .int .i64 f0.count, .slice a0B f0.path.length a0l] 58 (by simp)).alloc _)
  have bx1 : Box W0 (w.heap.size + 1) #[.int .i64 f1.kind, .int .i64 f1.epoch, .int .i64 f1.seq, .int .i64 f1.letter, .slice a1A f1.pieces.length a1k, .int .i64 f1.init, .int .i64 f1.num, .int .i64 f1.count, .slice a1B f1.path.length a1l] 58 := hW0 ▸ (Box.new' #[.int .i64 f1.kind, .int .i64 f1.epoch, .int .i64 f1.seq, .int .i64 f1.letter, .slice a1A f1.pieces.length a1k, .int .i64 f1.init, .int .i64 f1.num, .int .i64 f1.count, .slice a1B f1.path.length a1l] 58 (by simp))
  have hB : Below w.heap.size w W0 := hW0 ▸ (((Below.refl _ _).alloc (by first | (simp; done) | (simp; omega)) _).alloc (by first | (simp; done) | (simp; omega)) _)
  have hlo : w.heap.size + 1 + 1 ≤ W0.heap.size := hW0 ▸ (by simp)
  clear hW0
  refine (ccut (f := P0) ((h0.keep fun b _ q => hB.block b q).widen (Nat.le_refl _) hB.size) HP0.out).mono ?_
  rintro e v0 ⟨⟨P0A, P0k, P0B, P0l, rfl, hp0⟩, hb⟩
  replace bx0 := bx0.next hb
  replace bx1 := bx1.next hb
  replace hp0 := hp0.widen (lo' := w.heap.size + 1 + 1) hlo (Nat.le_refl _)
  replace hB := hB.trans (hb.mono hB.size)
  replace hlo := Nat.le_trans hlo hb.size
  clear hb
  obtain ⟨c0, c1, c2, c3, c4, c5, c6, c7, c8⟩ := nine_cells bx0
  obtain ⟨f0, f1, f2, f3, f4, f5, f6, f7, f8⟩ := nine_free bx0
  obtain ⟨d0, d1, d2, d3, d4, d5, d6, d7, d8⟩ := nine_cells bx1
  go_wp2_with fail
  clear c0 c1 c2 c3 c4 c5 c6 c7 c8
  clear f0 f1 f2 f3 f4 f5 f6 f7 f8
  clear d0 d1 d2 d3 d4 d5 d6 d7 d8
  refine name_call fun W hW => ?_
  have qx0 : Box W (w.heap.size) #[.int .i64 P0.kind, .int .i64 P0.epoch, .int .i64 P0.seq, .int .i64 P0.letter, .slice P0A P0.pieces.length P0k, .int .i64 P0.init, .int .i64 P0.num, .int .i64 P0.count, .slice P0B P0.path.length P0l] 58 := by rw [← hW]; exact nine_box bx0
  have qx1 : Box W (w.heap.size + 1) #[.int .i64 f1.kind, .int .i64 f1.epoch, .int .i64 f1.seq, .int .i64 f1.letter, .slice a1A f1.pieces.length a1k, .int .i64 f1.init, .int .i64 f1.num, .int .i64 f1.count, .slice a1B f1.path.length a1l] 58 := by rw [← hW]; exact bx1.nine_far (by omega)
  have qp0 : FrIs false W (w.heap.size + 1 + 1) W.heap.size (.agg #[.int .i64 P0.kind, .int .i64 P0.epoch, .int .i64 P0.seq, .int .i64 P0.letter, .slice P0A P0.pieces.length P0k, .int .i64 P0.init, .int .i64 P0.num, .int .i64 P0.count, .slice P0B P0.path.length P0l]) P0 := by rw [← hW]; exact hp0.nine_far (by omega)
  have qB : Below w.heap.size w W := by rw [← hW]; exact nine_below hB (by omega)
  have qlo : w.heap.size + 1 + 1 ≤ W.heap.size := by rw [← hW]; exact Nat.le_trans hlo (Nat.le_of_eq nine_size.symm)
  clear bx0 bx1 hp0 hB hlo hW
  have bx0 := qx0
  clear qx0
  have bx1 := qx1
  clear qx1
  have hp0 := qp0
  clear qp0
  have hB := qB
  have hlo := qlo
  clear qB qlo
  obtain ⟨V0, rfl⟩ : ∃ x : World, x = W := ⟨_, rfl⟩
  refine (ccut (f := P1) ((h1.keep fun b _ q => hB.block b q).widen (Nat.le_refl _) hB.size) HP1.out).mono ?_
  rintro e v1 ⟨⟨P1A, P1k, P1B, P1l, rfl, hp1⟩, hb⟩
  replace bx0 := bx0.next hb
  replace bx1 := bx1.next hb
  replace hp0 := hp0.next hb
  replace hp1 := hp1.widen (lo' := w.heap.size + 1 + 1) hlo (Nat.le_refl _)
  replace hB := hB.trans (hb.mono hB.size)
  replace hlo := Nat.le_trans hlo hb.size
  clear hb
  obtain ⟨c0, c1, c2, c3, c4, c5, c6, c7, c8⟩ := nine_cells bx1
  obtain ⟨f0, f1, f2, f3, f4, f5, f6, f7, f8⟩ := nine_free bx1
  obtain ⟨d0, d1, d2, d3, d4, d5, d6, d7, d8⟩ := nine_cells bx0
  go_wp2_with fail
  clear c0 c1 c2 c3 c4 c5 c6 c7 c8
  clear f0 f1 f2 f3 f4 f5 f6 f7 f8
  clear d0 d1 d2 d3 d4 d5 d6 d7 d8
  refine name_call fun W hW => ?_
  have qx1 : Box W (w.heap.size + 1) #[.int .i64 P1.kind, .int .i64 P1.epoch, .int .i64 P1.seq, .int .i64 P1.letter, .slice P1A P1.pieces.length P1k, .int .i64 P1.init, .int .i64 P1.num, .int .i64 P1.count, .slice P1B P1.path.length P1l] 58 := by rw [← hW]; exact nine_box bx1
  have qx0 : Box W (w.heap.size) #[.int .i64 P0.kind, .int .i64 P0.epoch, .int .i64 P0.seq, .int .i64 P0.letter, .slice P0A P0.pieces.length P0k, .int .i64 P0.init, .int .i64 P0.num, .int .i64 P0.count, .slice P0B P0.path.length P0l] 58 := by rw [← hW]; exact bx0.nine_far (by omega)
  have qp0 : FrIs false W (w.heap.size + 1 + 1) W.heap.size (.agg #[.int .i64 P0.kind, .int .i64 P0.epoch, .int .i64 P0.seq, .int .i64 P0.letter, .slice P0A P0.pieces.length P0k, .int .i64 P0.init, .int .i64 P0.num, .int .i64 P0.count, .slice P0B P0.path.length P0l]) P0 := by rw [← hW]; exact hp0.nine_far (by omega)
  have qp1 : FrIs false W (w.heap.size + 1 + 1) W.heap.size (.agg #[.int .i64 P1.kind, .int .i64 P1.epoch, .int .i64 P1.seq, .int .i64 P1.letter, .slice P1A P1.pieces.length P1k, .int .i64 P1.init, .int .i64 P1.num, .int .i64 P1.count, .slice P1B P1.path.length P1l]) P1 := by rw [← hW]; exact hp1.nine_far (by omega)
  have qB : Below w.heap.size w W := by rw [← hW]; exact nine_below hB (by omega)
  have qlo : w.heap.size + 1 + 1 ≤ W.heap.size := by rw [← hW]; exact Nat.le_trans hlo (Nat.le_of_eq nine_size.symm)
  clear bx0 bx1 hp0 hp1 hB hlo hW
  have bx0 := qx0
  clear qx0
  have bx1 := qx1
  clear qx1
  have hp0 := qp0
  clear qp0
  have hp1 := qp1
  clear qp1
  have hB := qB
  have hlo := qlo
  clear qB qlo
  obtain ⟨W0, rfl⟩ : ∃ x : World, x = W := ⟨_, rfl⟩
  replace hp0 := hp0.zero_
  replace hp1 := hp1.zero_
  have hR := HP0.out ▸ HR.out
  have hQ := HP1.out ▸ HQ.out
  have hDZ := HP0.out ▸ HDZ.out
  have HE0 := Lib.hid (Fr.enc_yes hR)
  obtain ⟨X, hX⟩ : ∃ X, ByteArray.mk (Fr.enc P0).toArray = X := ⟨_, rfl⟩
  have hxl : X.data.toList = Fr.body P0 := by rw [← hX, ← HE0.out.2]
  have hxs : X.size = (Fr.body P0).length := by have : X.size = X.data.toList.length := (by rw [Array.length_toList]; rfl); rw [this, hxl]
  have hx2 := Fr.body_two P0
  have hxm := Fr.body_len hR
  have HX := Lib.hid hX; have HXL := Lib.hid hxl; have HXS := Lib.hid hxs; have HXM := Lib.hid hxm; clear hX hxl hxm
  have HE1 := Lib.hid (Fr.enc_yes hQ)
  obtain ⟨Y, hY⟩ : ∃ Y, ByteArray.mk (Fr.enc P1).toArray = Y := ⟨_, rfl⟩
  obtain ⟨bb, hbb⟩ : ∃ b, decide (P0 = P1) = b := ⟨_, rfl⟩
  have hxy : (X.toList == Y.toList) = bb := by
    have e1 : X.toList = Fr.body P0 := by rw [← HX.out, ByteArray.toList_mk, ← HE0.out.2]
    have e2 : Y.toList = Fr.body P1 := by rw [← hY, ByteArray.toList_mk, ← HE1.out.2]
    rw [e1, e2, ← hbb, Bool.eq_iff_iff, beq_iff_eq, decide_eq_true_iff]
    exact ⟨fun h => Fr.body_inj hR hQ h, fun h => by rw [h]⟩
  have HBB := Lib.hid hbb; have HY := Lib.hid hY; have HXY := Lib.hid hxy; clear hbb hY hxy hQ
  have HR1 := Lib.hid hR; have HD := Lib.hid hDZ; clear hR hDZ
  have hs2 : (2 : Int) ≤ (X.size : Int) := by omega
  have hs3 : ¬ (X.size : Int) < 2 := by omega
  have HS2 := Lib.hid hs2; have HS3 := Lib.hid hs3; clear hs2 hs3 hxs hx2
  obtain ⟨c0, c1, c2, c3, c4, c5, c6, c7, c8⟩ := nine_cells bx0
  refine (cenc hp0 HX.out HE0.out.1).mono ?_
  rintro e w1 ⟨rfl, hb⟩
  replace bx0 := bx0.next hb
  replace bx1 := bx1.next hb
  replace hp0 := hp0.next hb
  replace hp1 := hp1.next hb
  replace hB := hB.trans (hb.mono hB.size)
  clear hb
  obtain ⟨d0, d1, d2, d3, d4, d5, d6, d7, d8⟩ := nine_cells bx1
  go_wp2_with fail
  clear d0 d1 d2 d3 d4 d5 d6 d7 d8
  clear c0 c1 c2 c3 c4 c5 c6 c7 c8
  refine (cenc hp1 HY.out HE1.out.1).mono ?_
  rintro e w2 ⟨rfl, hb⟩
  replace bx0 := bx0.next hb
  replace bx1 := bx1.next hb
  replace hp0 := hp0.next hb
  replace hp1 := hp1.next hb
  replace hB := hB.trans (hb.mono hB.size)
  clear hb
  have hs3 := HS3.out; have hs2 := HS2.out
  go_upto_region 7 with fail
  have hxy := HXY.out
  replace bx0 := bx0.next ((Below.refl _ _).drew)
  replace bx1 := bx1.next ((Below.refl _ _).drew)
  replace hp0 := hp0.next ((Below.refl _ _).drew)
  replace hp1 := hp1.next ((Below.refl _ _).drew)
  replace hB := hB.drew
  have hE := Ext.refl (w2.drew)
  refine region_go 1664 (by kernel_rfl) ?_
  refine wpAny_go 1664 0 [0, 1, 2] 7 15 (by kernel_rfl) (by kernel_rfl) (fun _ _ _ _ _ h => h) (by kernel_rfl) (by rfl) (by rfl) (by kernel_rfl) ?_
  simp only [List.map_cons, List.map_nil, List.getD_cons_succ, List.getD_cons_zero]
  go_wp2_with fail
  change wpAnyM _ _ _ _ _ _ _ _ _ _
  refine wpAny_reads 1664 7 [3, 4] 31 13 (by kernel_rfl) (by kernel_rfl) (fun _ _ _ _ _ h => h) (by kernel_rfl) (by rfl) (by rfl) (by kernel_rfl) ?_
  simp only [List.map_cons, List.map_nil, List.getD_cons_succ, List.getD_cons_zero]
  go_wp2_with fail
  change _ → wpAnyM _ _ _ _ _ _ _ _ _ _; intro _
  refine wpAny_takeM 5 rfl (by kernel_rfl) (by rfl : 31 ||| 2 ^ 5 = 63) (by kernel_rfl) (by kernel_rfl) (by kernel_rfl) (by kernel_rfl) (fun _ _ _ h => h) (.inl ⟨by rfl, fun w => by (go_simp; try with_reducible rfl)⟩) ?_
  obtain ⟨c0, c1, c2, c3, c4, c5, c6, c7, c8⟩ := nine_cells bx0
  refine wpAny_go 1664 63 [6] 127 11 (by kernel_rfl) (by kernel_rfl) (fun _ _ _ _ _ h => h) (by kernel_rfl) (by rfl) (by rfl) (by kernel_rfl) ?_
  simp only [List.map_cons, List.map_nil, List.getD_cons_succ, List.getD_cons_zero]
  go_wp2_with fail
  change wpAnyM _ _ _ _ _ _ _ _ _ _
  clear c0 c1 c2 c3 c4 c5 c6 c7 c8
  obtain ⟨c0, c1, c2, c3, c4, c5, c6, c7, c8⟩ := nine_cells bx1
  refine wpAny_reads 1664 127 [8] 383 10 (by kernel_rfl) (by kernel_rfl) (fun _ _ _ _ _ h => h) (by kernel_rfl) (by rfl) (by rfl) (by kernel_rfl) ?_
  simp only [List.map_cons, List.map_nil, List.getD_cons_succ, List.getD_cons_zero]
  go_wp2_with fail
  change _ → wpAnyM _ _ _ _ _ _ _ _ _ _; intro _
  clear c0 c1 c2 c3 c4 c5 c6 c7 c8
  refine wpAny_oneM 7 511 (by kernel_rfl) (by kernel_rfl) (of_decide_eq_true (by kernel_rfl)) (by rfl) ?_
  simp only [List.getD_cons_succ, List.getD_cons_zero]
  go_wp2_with fail
  refine (cref hp0 HS0.out).mono ?_
  rintro e w3 ⟨⟨QA, Qk, QB, Ql, rfl, hq0⟩, hb⟩
  replace bx0 := bx0.next hb
  replace bx1 := bx1.next hb
  replace hp0 := hp0.next hb
  replace hp1 := hp1.next hb
  replace hE := hE.trans (Ext.below hb (Nat.le_refl _))
  replace hB := hB.trans (hb.mono hB.size)
  clear hb
  go_wp2_with fail
  refine ⟨fun _ => hE, ?_⟩
  refine wpAny_oneM 9 1023 (by kernel_rfl) (by kernel_rfl) (of_decide_eq_true (by kernel_rfl)) (by rfl) ?_
  simp only [List.getD_cons_succ, List.getD_cons_zero]
  go_wp2_with fail
  refine (cref hp1 HS1.out).mono ?_
  rintro e w4 ⟨⟨RA, Rk, RB, Rl, rfl, hq1⟩, hb⟩
  replace bx0 := bx0.next hb
  replace bx1 := bx1.next hb
  replace hp0 := hp0.next hb
  replace hp1 := hp1.next hb
  replace hq0 := hq0.next hb
  replace hE := hE.trans (Ext.below hb (Nat.le_refl _))
  replace hB := hB.trans (hb.mono hB.size)
  clear hb
  go_wp2_with fail
  refine ⟨fun _ => hE, ?_⟩
  refine wpAny_oneM 10 2047 (by kernel_rfl) (by kernel_rfl) (of_decide_eq_true (by kernel_rfl)) (by rfl) ?_
  simp only [List.getD_cons_succ, List.getD_cons_zero]
  go_wp2_with fail
  refine (crsame hq0 hq1 HBB.out).mono ?_
  rintro e w5 ⟨rfl, hb⟩
  replace bx0 := bx0.next hb
  replace bx1 := bx1.next hb
  replace hp0 := hp0.next hb
  replace hp1 := hp1.next hb
  replace hq0 := hq0.next hb
  replace hq1 := hq1.next hb
  replace hE := hE.trans (Ext.below hb (Nat.le_refl _))
  replace hB := hB.trans (hb.mono hB.size)
  clear hb
  go_wp2_with fail
  refine ⟨fun _ => hE, ?_⟩
  refine wpAny_go 1664 2047 [11, 12, 13, 14, 15, 16, 17] 262143 0 (by kernel_rfl) (by kernel_rfl) (fun _ _ _ _ _ h => h) (by kernel_rfl) (by rfl) (by rfl) (by kernel_rfl) ?_
  simp only [List.map_cons, List.map_nil, List.getD_cons_succ, List.getD_cons_zero]
  go_wp2_with fail
  change wpAnyM _ _ _ _ _ _ _ _ _ _
  refine wpAny_endM (by kernel_rfl) (by kernel_rfl) ?_
  clear hxy hq0 hq1
  go_upto_region 9 with fail
  refine name_wp fun W5 hW5 => ?_
  have hb : Below w5.heap.size w5 W5 := hW5 ▸ Below.refl _ _
  replace bx0 := bx0.next hb
  replace bx1 := bx1.next hb
  replace hp0 := hp0.next hb
  replace hp1 := hp1.next hb
  replace hB := hB.trans (hb.mono hB.size)
  clear hb hW5
  clear hs3
  have hw2 := HW2.out
  obtain ⟨u, hu⟩ : ∃ u, UInt8.ofNat a2.toNat = u := ⟨_, rfl⟩
  have hcu : (u.toNat : Int) = a2 := by rw [← hu]; simp; omega
  have HDU := Lib.hid (show Fr.decE (Fr.body P0 ++ [u]) = 0 by rw [← hu]; exact HD.out)
  clear hw2 hu
  have rs := run_byte_string' W5 u a2 hcu
  have hxm : X.size ≤ 1000000 := by have h := HXM.out; have h2 := HXS.out; omega
  go_wp2_with fail
  clear rs hcu
  refine name_call fun W6 hW6 => ?_
  have hb : Below W5.heap.size W5 W6 := hW6 ▸ (Below.refl _ _).alloc (Nat.le_refl _) _
  replace bx0 := bx0.next hb
  replace bx1 := bx1.next hb
  replace hp0 := hp0.next hb
  replace hp1 := hp1.next hb
  replace hB := hB.trans (hb.mono hB.size)
  clear hb hW6
  have hk0 : (0 : Int) ≤ (X.size : Int) - 1 := by omega
  have hkk : (X.size : Int) - 1 ≤ (X.size : Int) := by omega
  have hk1 : X.size - 1 < (Fr.body P0).length := by have h := HXS.out; omega
  have HK1 := Lib.hid hk1; clear hk1
  refine (cdec (l := Fr.body P0 ++ [u]) (f := Fr.dec (Fr.body P0 ++ [u])) (n := 0) _ (by rw [← HXL.out]; exact append_list X _) (by rw [List.length_append]; have h := HXM.out; simp; omega) ⟨rfl, HDU.out⟩).mono ?_
  rintro e w6 ⟨⟨DA, Dk, DB, Dl, rfl, hd⟩, hb⟩
  replace bx0 := bx0.next hb
  replace bx1 := bx1.next hb
  replace hp0 := hp0.next hb
  replace hp1 := hp1.next hb
  replace hB := hB.trans (hb.mono hB.size)
  clear hb
  obtain ⟨D, hD⟩ : ∃ D, Fr.dec (Fr.body P0 ++ [u]) = D := ⟨_, rfl⟩
  have hdm := Fr.dec_more HDU.out
  rw [hD] at hd hdm ⊢
  have HDM := Lib.hid hdm; clear hD hdm
  go_wp2_with fail
  refine name_call fun W7 hW7 => ?_
  have bx7 : Box W7 w6.heap.size #[.int .i64 D.kind, .int .i64 D.epoch, .int .i64 D.seq, .int .i64 D.letter, .slice DA D.pieces.length Dk, .int .i64 D.init, .int .i64 D.num, .int .i64 D.count, .slice DB D.path.length Dl] 58 := hW7 ▸ Box.new _ _ _
  have hb : Below w6.heap.size w6 W7 := hW7 ▸ (Below.refl _ _).alloc (Nat.le_refl _) _
  replace bx0 := bx0.next hb
  replace bx1 := bx1.next hb
  replace hp0 := hp0.next hb
  replace hp1 := hp1.next hb
  replace hd := hd.next hb
  replace hB := hB.trans (hb.mono hB.size)
  clear hb hW7
  refine (cdec (l := (Fr.body P0).take (X.size - 1)) (f := Fr.zero) (n := 4) _ (by rw [extract_take, HXL.out]) (by have h := HXM.out; simp; omega) (Fr.dec_less HR1.out HK1.out)).mono ?_
  rintro e w7 ⟨⟨EA, Ek, EB, El, rfl, he⟩, hb⟩
  replace bx0 := bx0.next hb
  replace bx1 := bx1.next hb
  replace hp0 := hp0.next hb
  replace hp1 := hp1.next hb
  replace hd := hd.next hb
  replace bx7 := bx7.next hb
  replace hB := hB.trans (hb.mono hB.size)
  clear hb
  dsimp only [Fr.zero, List.length_nil] at he ⊢
  clear he
  clear hk0 hkk hxm
  go_upto_region 11 with fail
  refine name_wp fun W8 hW8 => ?_
  have hb : Below w7.heap.size w7 W8 := hW8 ▸ (Below.refl _ _).alloc (Nat.le_refl _) _
  replace bx0 := bx0.next hb
  replace bx1 := bx1.next hb
  replace hp0 := hp0.next hb
  replace hp1 := hp1.next hb
  replace hd := hd.next hb
  replace bx7 := bx7.next hb
  replace hB := hB.trans (hb.mono hB.size)
  clear hb hW8
  replace bx0 := bx0.next ((Below.refl _ _).drew)
  replace bx1 := bx1.next ((Below.refl _ _).drew)
  replace hp0 := hp0.next ((Below.refl _ _).drew)
  replace hp1 := hp1.next ((Below.refl _ _).drew)
  replace hd := hd.next ((Below.refl _ _).drew)
  replace bx7 := bx7.next ((Below.refl _ _).drew)
  replace hB := hB.drew
  have hE := Ext.refl (W8.drew)
  refine region_go 32976 (by kernel_rfl) ?_
  obtain ⟨c0, c1, c2, c3, c4, c5, c6, c7, c8⟩ := nine_cells bx7
  refine wpAny_go 32976 0 [0, 1, 2, 3] 15 14 (by kernel_rfl) (by kernel_rfl) (fun _ _ _ _ _ h => h) (by kernel_rfl) (by rfl) (by rfl) (by kernel_rfl) ?_
  simp only [List.map_cons, List.map_nil, List.getD_cons_succ, List.getD_cons_zero]
  go_wp2_with fail
  change wpAnyM _ _ _ _ _ _ _ _ _ _
  clear c0 c1 c2 c3 c4 c5 c6 c7 c8
  obtain ⟨c0, c1, c2, c3, c4, c5, c6, c7, c8⟩ := nine_cells bx0
  refine wpAny_reads 32976 15 [5] 47 13 (by kernel_rfl) (by kernel_rfl) (fun _ _ _ _ _ h => h) (by kernel_rfl) (by rfl) (by rfl) (by kernel_rfl) ?_
  simp only [List.map_cons, List.map_nil, List.getD_cons_succ, List.getD_cons_zero]
  go_wp2_with fail
  change _ → wpAnyM _ _ _ _ _ _ _ _ _ _; intro _
  clear c0 c1 c2 c3 c4 c5 c6 c7 c8
  refine wpAny_oneM 4 63 (by kernel_rfl) (by kernel_rfl) (of_decide_eq_true (by kernel_rfl)) (by rfl) ?_
  simp only [List.getD_cons_succ, List.getD_cons_zero]
  go_wp2_with fail
  refine (cref2 hd (by have h := Fr.right_len HDM.out.1; omega)).mono ?_
  rintro e w8 ⟨⟨GA, Gk, GB, Gl, rfl, hg0⟩, hb⟩
  replace bx0 := bx0.next hb
  replace bx1 := bx1.next hb
  replace hp0 := hp0.next hb
  replace hp1 := hp1.next hb
  replace hd := hd.next hb
  replace bx7 := bx7.next hb
  replace hE := hE.trans (Ext.below hb (Nat.le_refl _))
  replace hB := hB.trans (hb.mono hB.size)
  clear hb
  go_wp2_with fail
  refine ⟨fun _ => hE, ?_⟩
  refine wpAny_oneM 6 127 (by kernel_rfl) (by kernel_rfl) (of_decide_eq_true (by kernel_rfl)) (by rfl) ?_
  simp only [List.getD_cons_succ, List.getD_cons_zero]
  go_wp2_with fail
  refine (cref hp0 HS0.out).mono ?_
  rintro e w9 ⟨⟨HA, Hk, HB, Hl, rfl, hg1⟩, hb⟩
  replace bx0 := bx0.next hb
  replace bx1 := bx1.next hb
  replace hp0 := hp0.next hb
  replace hp1 := hp1.next hb
  replace hd := hd.next hb
  replace bx7 := bx7.next hb
  replace hg0 := hg0.next hb
  replace hE := hE.trans (Ext.below hb (Nat.le_refl _))
  replace hB := hB.trans (hb.mono hB.size)
  clear hb
  go_wp2_with fail
  refine ⟨fun _ => hE, ?_⟩
  refine wpAny_oneM 7 255 (by kernel_rfl) (by kernel_rfl) (of_decide_eq_true (by kernel_rfl)) (by rfl) ?_
  simp only [List.getD_cons_succ, List.getD_cons_zero]
  go_wp2_with fail
  refine (crsame hg0 hg1 (decide_eq_false HDM.out.2)).mono ?_
  rintro e w10 ⟨rfl, hb⟩
  replace bx0 := bx0.next hb
  replace bx1 := bx1.next hb
  replace hp0 := hp0.next hb
  replace hp1 := hp1.next hb
  replace hd := hd.next hb
  replace bx7 := bx7.next hb
  replace hg0 := hg0.next hb
  replace hg1 := hg1.next hb
  replace hE := hE.trans (Ext.below hb (Nat.le_refl _))
  replace hB := hB.trans (hb.mono hB.size)
  clear hb
  go_wp2_with fail
  refine ⟨fun _ => hE, ?_⟩
  refine wpAny_go 32976 255 [8, 9, 10, 11, 12, 13, 14] 32767 3 (by kernel_rfl) (by kernel_rfl) (fun _ _ _ _ _ h => h) (by kernel_rfl) (by rfl) (by rfl) (by kernel_rfl) ?_
  simp only [List.map_cons, List.map_nil, List.getD_cons_succ, List.getD_cons_zero]
  go_wp2_with fail
  change wpAnyM _ _ _ _ _ _ _ _ _ _
  refine wpAny_oneM 15 65535 (by kernel_rfl) (by kernel_rfl) (of_decide_eq_true (by kernel_rfl)) (by rfl) ?_
  simp only [List.getD_cons_succ, List.getD_cons_zero]
  go_wp2_with fail
  refine (fixed7_any _).mono ?_
  rintro e w11 ⟨rfl, hb⟩
  replace bx0 := bx0.next hb
  replace bx1 := bx1.next hb
  replace hp0 := hp0.next hb
  replace hp1 := hp1.next hb
  replace hd := hd.next hb
  replace bx7 := bx7.next hb
  replace hg0 := hg0.next hb
  replace hg1 := hg1.next hb
  replace hE := hE.trans (Ext.below hb (Nat.le_refl _))
  replace hB := hB.trans (hb.mono hB.size)
  clear hb
  go_wp2_with fail
  refine ⟨fun _ => hE, ?_⟩
  refine wpAny_go 32976 65535 [16, 17] 262143 0 (by kernel_rfl) (by kernel_rfl) (fun _ _ _ _ _ h => h) (by kernel_rfl) (by rfl) (by rfl) (by kernel_rfl) ?_
  simp only [List.map_cons, List.map_nil, List.getD_cons_succ, List.getD_cons_zero]
  go_wp2_with fail
  change wpAnyM _ _ _ _ _ _ _ _ _ _
  refine wpAny_endM (by kernel_rfl) (by kernel_rfl) ?_
  go_wp2_with fail
  go_ret
  exact ⟨rfl, hB⟩

theorem walk (v0 : Value) (f0 : Fr) (v1 : Value) (f1 : Fr) (a2 : Int) (w2 : (Lit.int .u8 a2).wf = true) (w : World) (h0 : FrIs false w 0 w.heap.size v0 f0) (h1 : FrIs false w 0 w.heap.size v1 f1) :
    Calls Try.prog 11 #[v0, v1, .int .u8 a2] w fun x w' => x = .returned (.bool true) ∧ Below w.heap.size w w' := by
  have hw2 : 0 ≤ a2 ∧ a2 ≤ 255 := by simpa [Lit.wf, IntKind.min, IntKind.max, IntKind.signed, IntKind.bits] using w2
  cases hr : Fr.right (Fr.cut f0)
  · exact walk_n v0 f0 v1 f1 a2 hw2 w h0 h1 hr
  · by_cases hd : Fr.decE (Fr.body (Fr.cut f0) ++ [UInt8.ofNat a2.toNat]) = 0
    · cases hq : Fr.right (Fr.cut f1)
      · exact walk_yny v0 f0 v1 f1 a2 hw2 w h0 h1 hr hq hd
      · exact walk_yyy v0 f0 v1 f1 a2 hw2 w h0 h1 hr hq hd
    · cases hq : Fr.right (Fr.cut f1)
      · exact walk_ynn v0 f0 v1 f1 a2 hw2 w h0 h1 hr hq hd
      · exact walk_yyn v0 f0 v1 f1 a2 hw2 w h0 h1 hr hq hd
end Go.Proofs.Ytdfgnmdofjhnkaa.frameSides
