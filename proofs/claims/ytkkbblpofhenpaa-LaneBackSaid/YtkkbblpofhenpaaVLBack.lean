/- LaneBack: the walk. -/
import Derived.Test.YtkkbblpofhenpaaS15
namespace Go.Proofs.Ytkkbblpofhenpaa.laneBack
open Go.RowKit Go.Proofs.Ytkkbblpofhenpaa

set_option maxRecDepth 100000 in
set_option maxHeartbeats 8000000 in
theorem walk_q (v0 : Value) (a0 : La) (v1 : Value) (f1 : Fr) (w : World) (h0 : LaIs false w 0 w.heap.size v0 a0) (h1 : FrIs false w 0 w.heap.size v1 f1) (hq : La.right (La.cut a0) = false) :
    Calls Try.prog 7 #[v0, v1] w fun x w' => x = .returned (.bool true) ∧ Below w.heap.size w w' := by
  have HQ0 := Lib.hid hq; clear hq
  obtain ⟨a0A, a0c, rfl, _⟩ := id h0
  obtain ⟨P0, hP0⟩ : ∃ P, La.cut a0 = P := ⟨_, rfl⟩
  have hs0 : P0.Small := hP0 ▸ La.cut_small _
  have HP0 := Lib.hid hP0; have HS0 := Lib.hid hs0; clear hP0 hs0
  obtain ⟨a1A, a1B, a1k, a1l, rfl, _, _⟩ := id h1
  obtain ⟨P1, hP1⟩ : ∃ P, Fr.cut f1 = P := ⟨_, rfl⟩
  have hs1 : P1.Small := hP1 ▸ Fr.cut_small _
  have HP1 := Lib.hid hP1; have HS1 := Lib.hid hs1; clear hP1 hs1
  go_enter Try.func7, Try.ntmps7
  try simp only [List.append_eq, List.cons_append, List.nil_append]
  go_wp2_with fail
  refine name_call fun W0 hW0 => ?_
  have bx0 : Box W0 (w.heap.size) #[.bool a0.fifo, .int .i64 a0.cap, .slice a0A a0.l.length a0c] 25 := hW0 ▸ ((Box.new' #[.bool a0.fifo, .int .i64 a0.cap, .slice a0A a0.l.length a0c] 25 (by simp)).alloc _)
  have bx1 : Box W0 (w.heap.size + 1) #[.int .i64 f1.kind, .int .i64 f1.epoch, .int .i64 f1.seq, .int .i64 f1.letter, .slice a1A f1.pieces.length a1k, .int .i64 f1.init, .int .i64 f1.num, .int .i64 f1.count, .slice a1B f1.path.length a1l] 37 := hW0 ▸ (Box.new' #[.int .i64 f1.kind, .int .i64 f1.epoch, .int .i64 f1.seq, .int .i64 f1.letter, .slice a1A f1.pieces.length a1k, .int .i64 f1.init, .int .i64 f1.num, .int .i64 f1.count, .slice a1B f1.path.length a1l] 37 (by simp))
  have hB : Below w.heap.size w W0 := hW0 ▸ (((Below.refl _ _).alloc (by first | (simp; done) | (simp; omega)) _).alloc (by first | (simp; done) | (simp; omega)) _)
  have hlo : w.heap.size + 1 + 1 ≤ W0.heap.size := hW0 ▸ (by simp)
  clear hW0
  refine (clacut (h0.next hB) HP0.out).mono ?_
  rintro e w1 ⟨⟨P0A, P0c, rfl, hp0⟩, hb⟩
  replace bx0 := bx0.next hb
  replace bx1 := bx1.next hb
  replace hp0 := hp0.widen hlo (Nat.le_refl _)
  replace hB := hB.trans (hb.mono hB.size)
  replace hlo := Nat.le_trans hlo hb.size
  clear hb
  obtain ⟨d0, d1, d2⟩ := three_cells bx0
  have df0 := three_free bx0 0
  have df1 := three_free bx0 1
  have df2 := three_free bx0 2
  have hl0 := bx0.lt
  obtain ⟨g0, g1, g2, g3, g4, g5, g6, g7, g8⟩ := nine_cells bx1
  have hl1 := bx1.lt
  go_wp2_with fail
  clear d0 d1 d2 df0 df1 df2 hl0
  clear g0 g1 g2 g3 g4 g5 g6 g7 g8
  clear hl1
  refine name_call fun W hW => ?_
  have qx0 : Box W w.heap.size #[.bool P0.fifo, .int .i64 P0.cap, .slice P0A P0.l.length P0c] 25 := by rw [← hW]; exact blk_set (blk_set (blk_set bx0 0 _) 1 _) 2 _
  have qbx1 : Box W (w.heap.size + 1) #[.int .i64 f1.kind, .int .i64 f1.epoch, .int .i64 f1.seq, .int .i64 f1.letter, .slice a1A f1.pieces.length a1k, .int .i64 f1.init, .int .i64 f1.num, .int .i64 f1.count, .slice a1B f1.path.length a1l] 37 := by rw [← hW]; exact (three_other (by omega)).trans bx1
  have qp0 : LaIs false W (w.heap.size + 1 + 1) W.heap.size (.agg #[.bool P0.fifo, .int .i64 P0.cap, .slice P0A P0.l.length P0c]) P0 := by rw [← hW]; exact (hp0.keep fun b h1 _ => three_other (by omega)).widen (Nat.le_refl _) (Nat.le_of_eq three_size.symm)
  have qB : Below w.heap.size w W := by rw [← hW]; exact ((hB.setCell (by simp) _).setCell (by simp) _).setCell (by simp) _
  have qlo : w.heap.size + 1 + 1 ≤ W.heap.size := by rw [← hW]; exact Nat.le_trans hlo (Nat.le_of_eq three_size.symm)
  clear bx0 bx1 hp0 hB hlo hW
  have bx0 := qx0; clear qx0
  have bx1 := qbx1; clear qbx1
  have hp0 := qp0; have hB := qB; have hlo := qlo; clear qp0 qB qlo
  obtain ⟨W1, rfl⟩ : ∃ x : World, x = W := ⟨_, rfl⟩
  refine (ccut (f := P1) (h1.keep (fun b _ q => hB.block b q) |>.widen (Nat.le_refl _) hB.size) HP1.out).mono ?_
  rintro e w2 ⟨⟨P1A, P1k, P1B, P1l, rfl, hp1⟩, hb⟩
  replace bx0 := bx0.next hb
  replace bx1 := bx1.next hb
  replace hp0 := hp0.next hb
  replace hp1 := hp1.widen hlo (Nat.le_refl _)
  replace hB := hB.trans (hb.mono hB.size)
  replace hlo := Nat.le_trans hlo hb.size
  clear hb
  obtain ⟨g0, g1, g2, g3, g4, g5, g6, g7, g8⟩ := nine_cells bx1
  obtain ⟨c0, c1, c2, c3, c4, c5, c6, c7, c8⟩ := nine_free bx1
  have hl1 := bx1.lt
  obtain ⟨d0, d1, d2⟩ := three_cells bx0
  have hl0 := bx0.lt
  go_wp2_with fail
  clear g0 g1 g2 g3 g4 g5 g6 g7 g8
  clear c0 c1 c2 c3 c4 c5 c6 c7 c8
  clear hl1 d0 d1 d2 hl0
  refine name_call fun W hW => ?_
  have qbx0 : Box W w.heap.size #[.bool P0.fifo, .int .i64 P0.cap, .slice P0A P0.l.length P0c] 25 := by rw [← hW]; exact (nine_far (by omega)).trans bx0
  have qbx1 : Box W (w.heap.size + 1) #[.int .i64 P1.kind, .int .i64 P1.epoch, .int .i64 P1.seq, .int .i64 P1.letter, .slice P1A P1.pieces.length P1k, .int .i64 P1.init, .int .i64 P1.num, .int .i64 P1.count, .slice P1B P1.path.length P1l] 37 := by rw [← hW]; exact nine_box bx1
  have qp0 : LaIs false W (w.heap.size + 1 + 1) W.heap.size (.agg #[.bool P0.fifo, .int .i64 P0.cap, .slice P0A P0.l.length P0c]) P0 := by rw [← hW]; exact (hp0.keep fun b h1 _ => Go.Proofs.Ytkkbblpofhenpaa.nine_far (by omega)).widen (Nat.le_refl _) (Nat.le_of_eq nine_size.symm)
  have qp1 : FrIs false W (w.heap.size + 1 + 1) W.heap.size (.agg #[.int .i64 P1.kind, .int .i64 P1.epoch, .int .i64 P1.seq, .int .i64 P1.letter, .slice P1A P1.pieces.length P1k, .int .i64 P1.init, .int .i64 P1.num, .int .i64 P1.count, .slice P1B P1.path.length P1l]) P1 := by rw [← hW]; exact (hp1.soft.keep fun b h1 _ => Go.Proofs.Ytkkbblpofhenpaa.nine_far (by omega)).widen (Nat.le_refl _) (Nat.le_of_eq nine_size.symm)
  have qB : Below w.heap.size w W := by rw [← hW]; exact nine_below hB (by omega)
  have qlo : w.heap.size + 1 + 1 ≤ W.heap.size := by rw [← hW]; exact Nat.le_trans hlo (Nat.le_of_eq nine_size.symm)
  clear bx0 bx1 hp0 hp1 hB hlo hW
  have bx0 := qbx0; clear qbx0
  have bx1 := qbx1; clear qbx1
  have hp0 := qp0; have hp1 := qp1; have hB := qB; have hlo := qlo; clear qp0 qp1 qB qlo
  clear hlo
  obtain ⟨W0, rfl⟩ : ∃ x : World, x = W := ⟨_, rfl⟩
  replace hp0 := hp0.zero_
  replace hp1 := hp1.zero_
  have HQ := Lib.hid (HP0.out ▸ HQ0.out)
  obtain ⟨d0, d1, d2⟩ := three_cells bx0
  have hl0 := bx0.lt
  refine (claref hp0 HS0.out).mono ?_
  rintro e w1 ⟨⟨RA, Rc, rfl, hr⟩, hb⟩
  replace bx0 := bx0.next hb
  replace bx1 := bx1.next hb
  replace hp0 := hp0.next hb
  replace hp1 := hp1.next hb
  replace hB := hB.trans (hb.mono hB.size)
  clear hb
  go_wp2_with fail
  refine (craright hr HQ.out).mono ?_
  rintro e w2 ⟨rfl, hb⟩
  replace bx0 := bx0.next hb
  replace bx1 := bx1.next hb
  replace hp0 := hp0.next hb
  replace hp1 := hp1.next hb
  replace hr := hr.next hb
  replace hB := hB.trans (hb.mono hB.size)
  clear hb
  clear hr
  clear d0 d1 d2
  clear hl0
  obtain ⟨d0, d1, d2⟩ := three_cells bx0
  have hl0 := bx0.lt
  go_wp2_with fail
  clear d0 d1 d2
  clear hl0
  refine (claright hp0 HS0.out.len HQ.out).mono ?_
  rintro e w3 ⟨rfl, hb⟩
  replace bx0 := bx0.next hb
  replace bx1 := bx1.next hb
  replace hp0 := hp0.next hb
  replace hp1 := hp1.next hb
  replace hB := hB.trans (hb.mono hB.size)
  clear hb
  go_wp2_with fail
  refine (fixed8_any _).mono ?_
  rintro e w4 ⟨rfl, hb⟩
  replace bx0 := bx0.next hb
  replace bx1 := bx1.next hb
  replace hp0 := hp0.next hb
  replace hp1 := hp1.next hb
  replace hB := hB.trans (hb.mono hB.size)
  clear hb
  go_wp2_with fail
  go_ret
  exact ⟨rfl, hB⟩

set_option maxRecDepth 100000 in
set_option maxHeartbeats 8000000 in
theorem walk_form (v0 : Value) (a0 : La) (v1 : Value) (f1 : Fr) (w : World) (h0 : LaIs false w 0 w.heap.size v0 a0) (h1 : FrIs false w 0 w.heap.size v1 f1) (hq : La.right (La.cut a0) = true) (hr : Fr.right (Fr.cut f1) = false) :
    Calls Try.prog 7 #[v0, v1] w fun x w' => x = .returned (.bool true) ∧ Below w.heap.size w w' := by
  have HRF := Lib.hid hr; clear hr
  have HQ0 := Lib.hid hq; clear hq
  obtain ⟨a0A, a0c, rfl, _⟩ := id h0
  obtain ⟨P0, hP0⟩ : ∃ P, La.cut a0 = P := ⟨_, rfl⟩
  have hs0 : P0.Small := hP0 ▸ La.cut_small _
  have HP0 := Lib.hid hP0; have HS0 := Lib.hid hs0; clear hP0 hs0
  obtain ⟨a1A, a1B, a1k, a1l, rfl, _, _⟩ := id h1
  obtain ⟨P1, hP1⟩ : ∃ P, Fr.cut f1 = P := ⟨_, rfl⟩
  have hs1 : P1.Small := hP1 ▸ Fr.cut_small _
  have HP1 := Lib.hid hP1; have HS1 := Lib.hid hs1; clear hP1 hs1
  go_enter Try.func7, Try.ntmps7
  try simp only [List.append_eq, List.cons_append, List.nil_append]
  go_wp2_with fail
  refine name_call fun W0 hW0 => ?_
  have bx0 : Box W0 (w.heap.size) #[.bool a0.fifo, .int .i64 a0.cap, .slice a0A a0.l.length a0c] 25 := hW0 ▸ ((Box.new' #[.bool a0.fifo, .int .i64 a0.cap, .slice a0A a0.l.length a0c] 25 (by simp)).alloc _)
  have bx1 : Box W0 (w.heap.size + 1) #[.int .i64 f1.kind, .int .i64 f1.epoch, .int .i64 f1.seq, .int .i64 f1.letter, .slice a1A f1.pieces.length a1k, .int .i64 f1.init, .int .i64 f1.num, .int .i64 f1.count, .slice a1B f1.path.length a1l] 37 := hW0 ▸ (Box.new' #[.int .i64 f1.kind, .int .i64 f1.epoch, .int .i64 f1.seq, .int .i64 f1.letter, .slice a1A f1.pieces.length a1k, .int .i64 f1.init, .int .i64 f1.num, .int .i64 f1.count, .slice a1B f1.path.length a1l] 37 (by simp))
  have hB : Below w.heap.size w W0 := hW0 ▸ (((Below.refl _ _).alloc (by first | (simp; done) | (simp; omega)) _).alloc (by first | (simp; done) | (simp; omega)) _)
  have hlo : w.heap.size + 1 + 1 ≤ W0.heap.size := hW0 ▸ (by simp)
  clear hW0
  refine (clacut (h0.next hB) HP0.out).mono ?_
  rintro e w1 ⟨⟨P0A, P0c, rfl, hp0⟩, hb⟩
  replace bx0 := bx0.next hb
  replace bx1 := bx1.next hb
  replace hp0 := hp0.widen hlo (Nat.le_refl _)
  replace hB := hB.trans (hb.mono hB.size)
  replace hlo := Nat.le_trans hlo hb.size
  clear hb
  obtain ⟨d0, d1, d2⟩ := three_cells bx0
  have df0 := three_free bx0 0
  have df1 := three_free bx0 1
  have df2 := three_free bx0 2
  have hl0 := bx0.lt
  obtain ⟨g0, g1, g2, g3, g4, g5, g6, g7, g8⟩ := nine_cells bx1
  have hl1 := bx1.lt
  go_wp2_with fail
  clear d0 d1 d2 df0 df1 df2 hl0
  clear g0 g1 g2 g3 g4 g5 g6 g7 g8
  clear hl1
  refine name_call fun W hW => ?_
  have qx0 : Box W w.heap.size #[.bool P0.fifo, .int .i64 P0.cap, .slice P0A P0.l.length P0c] 25 := by rw [← hW]; exact blk_set (blk_set (blk_set bx0 0 _) 1 _) 2 _
  have qbx1 : Box W (w.heap.size + 1) #[.int .i64 f1.kind, .int .i64 f1.epoch, .int .i64 f1.seq, .int .i64 f1.letter, .slice a1A f1.pieces.length a1k, .int .i64 f1.init, .int .i64 f1.num, .int .i64 f1.count, .slice a1B f1.path.length a1l] 37 := by rw [← hW]; exact (three_other (by omega)).trans bx1
  have qp0 : LaIs false W (w.heap.size + 1 + 1) W.heap.size (.agg #[.bool P0.fifo, .int .i64 P0.cap, .slice P0A P0.l.length P0c]) P0 := by rw [← hW]; exact (hp0.keep fun b h1 _ => three_other (by omega)).widen (Nat.le_refl _) (Nat.le_of_eq three_size.symm)
  have qB : Below w.heap.size w W := by rw [← hW]; exact ((hB.setCell (by simp) _).setCell (by simp) _).setCell (by simp) _
  have qlo : w.heap.size + 1 + 1 ≤ W.heap.size := by rw [← hW]; exact Nat.le_trans hlo (Nat.le_of_eq three_size.symm)
  clear bx0 bx1 hp0 hB hlo hW
  have bx0 := qx0; clear qx0
  have bx1 := qbx1; clear qbx1
  have hp0 := qp0; have hB := qB; have hlo := qlo; clear qp0 qB qlo
  obtain ⟨W1, rfl⟩ : ∃ x : World, x = W := ⟨_, rfl⟩
  refine (ccut (f := P1) (h1.keep (fun b _ q => hB.block b q) |>.widen (Nat.le_refl _) hB.size) HP1.out).mono ?_
  rintro e w2 ⟨⟨P1A, P1k, P1B, P1l, rfl, hp1⟩, hb⟩
  replace bx0 := bx0.next hb
  replace bx1 := bx1.next hb
  replace hp0 := hp0.next hb
  replace hp1 := hp1.widen hlo (Nat.le_refl _)
  replace hB := hB.trans (hb.mono hB.size)
  replace hlo := Nat.le_trans hlo hb.size
  clear hb
  obtain ⟨g0, g1, g2, g3, g4, g5, g6, g7, g8⟩ := nine_cells bx1
  obtain ⟨c0, c1, c2, c3, c4, c5, c6, c7, c8⟩ := nine_free bx1
  have hl1 := bx1.lt
  obtain ⟨d0, d1, d2⟩ := three_cells bx0
  have hl0 := bx0.lt
  go_wp2_with fail
  clear g0 g1 g2 g3 g4 g5 g6 g7 g8
  clear c0 c1 c2 c3 c4 c5 c6 c7 c8
  clear hl1 d0 d1 d2 hl0
  refine name_call fun W hW => ?_
  have qbx0 : Box W w.heap.size #[.bool P0.fifo, .int .i64 P0.cap, .slice P0A P0.l.length P0c] 25 := by rw [← hW]; exact (nine_far (by omega)).trans bx0
  have qbx1 : Box W (w.heap.size + 1) #[.int .i64 P1.kind, .int .i64 P1.epoch, .int .i64 P1.seq, .int .i64 P1.letter, .slice P1A P1.pieces.length P1k, .int .i64 P1.init, .int .i64 P1.num, .int .i64 P1.count, .slice P1B P1.path.length P1l] 37 := by rw [← hW]; exact nine_box bx1
  have qp0 : LaIs false W (w.heap.size + 1 + 1) W.heap.size (.agg #[.bool P0.fifo, .int .i64 P0.cap, .slice P0A P0.l.length P0c]) P0 := by rw [← hW]; exact (hp0.keep fun b h1 _ => Go.Proofs.Ytkkbblpofhenpaa.nine_far (by omega)).widen (Nat.le_refl _) (Nat.le_of_eq nine_size.symm)
  have qp1 : FrIs false W (w.heap.size + 1 + 1) W.heap.size (.agg #[.int .i64 P1.kind, .int .i64 P1.epoch, .int .i64 P1.seq, .int .i64 P1.letter, .slice P1A P1.pieces.length P1k, .int .i64 P1.init, .int .i64 P1.num, .int .i64 P1.count, .slice P1B P1.path.length P1l]) P1 := by rw [← hW]; exact (hp1.soft.keep fun b h1 _ => Go.Proofs.Ytkkbblpofhenpaa.nine_far (by omega)).widen (Nat.le_refl _) (Nat.le_of_eq nine_size.symm)
  have qB : Below w.heap.size w W := by rw [← hW]; exact nine_below hB (by omega)
  have qlo : w.heap.size + 1 + 1 ≤ W.heap.size := by rw [← hW]; exact Nat.le_trans hlo (Nat.le_of_eq nine_size.symm)
  clear bx0 bx1 hp0 hp1 hB hlo hW
  have bx0 := qbx0; clear qbx0
  have bx1 := qbx1; clear qbx1
  have hp0 := qp0; have hp1 := qp1; have hB := qB; have hlo := qlo; clear qp0 qp1 qB qlo
  clear hlo
  obtain ⟨W0, rfl⟩ : ∃ x : World, x = W := ⟨_, rfl⟩
  replace hp0 := hp0.zero_
  replace hp1 := hp1.zero_
  have HQ := Lib.hid (HP0.out ▸ HQ0.out)
  obtain ⟨d0, d1, d2⟩ := three_cells bx0
  have hl0 := bx0.lt
  refine (claref hp0 HS0.out).mono ?_
  rintro e w1 ⟨⟨RA, Rc, rfl, hr⟩, hb⟩
  replace bx0 := bx0.next hb
  replace bx1 := bx1.next hb
  replace hp0 := hp0.next hb
  replace hp1 := hp1.next hb
  replace hB := hB.trans (hb.mono hB.size)
  clear hb
  go_wp2_with fail
  refine (craright hr HQ.out).mono ?_
  rintro e w2 ⟨rfl, hb⟩
  replace bx0 := bx0.next hb
  replace bx1 := bx1.next hb
  replace hp0 := hp0.next hb
  replace hp1 := hp1.next hb
  replace hr := hr.next hb
  replace hB := hB.trans (hb.mono hB.size)
  clear hb
  clear hr
  clear d0 d1 d2
  clear hl0
  obtain ⟨d0, d1, d2⟩ := three_cells bx0
  have hl0 := bx0.lt
  have HR := Lib.hid (show Fr.right P1 = _ from HP1.out ▸ HRF.out)
  obtain ⟨d0, d1, d2⟩ := three_cells bx0
  have hl0 := bx0.lt
  obtain ⟨g0, g1, g2, g3, g4, g5, g6, g7, g8⟩ := nine_cells bx1
  have hl1 := bx1.lt
  go_wp2_with fail
  clear d0 d1 d2
  clear hl0
  clear g0 g1 g2 g3 g4 g5 g6 g7 g8
  clear hl1
  refine (cpushI (lo := 0) ⟨false, 0, []⟩ 4 (Nat.zero_le _) hp0 hp1 HS0.out.len' (La.push_form HR.out).1 (La.push_form HR.out).2).mono ?_
  rintro e w3 ⟨⟨XA, Xc, rfl, _⟩, hb⟩
  replace bx0 := bx0.next hb
  replace bx1 := bx1.next hb
  replace hp0 := hp0.next hb
  replace hp1 := hp1.next hb
  replace hB := hB.trans (hb.mono hB.size)
  clear hb
  dsimp only [List.length_nil]
  obtain ⟨d0, d1, d2, d3, d4, d5, d6, d7, d8⟩ := nine_cells bx1
  have hl0 := bx1.lt
  go_wp2_with fail
  clear d0 d1 d2 d3 d4 d5 d6 d7 d8
  clear hl0
  refine name_call fun W5 hW5 => ?_
  have bx3 : Box W5 (w3.heap.size) #[.bool false, .int .i64 0, .slice XA 0 Xc] 25 := hW5 ▸ (Box.new' #[.bool false, .int .i64 0, .slice XA 0 Xc] 25 (by simp))
  have hb : Below w3.heap.size w3 W5 := hW5 ▸ ((Below.refl _ _).alloc (by first | (simp; done) | (simp; omega)) _)
  clear hW5
  replace bx0 := bx0.next hb
  replace bx1 := bx1.next hb
  replace hp0 := hp0.next hb
  replace hp1 := hp1.next hb
  replace hB := hB.trans (hb.mono hB.size)
  clear hb
  refine (cref hp1 HS1.out).mono ?_
  rintro e w4 ⟨⟨QA, Qk, QB, Ql, rfl, hq1⟩, hb⟩
  replace bx0 := bx0.next hb
  replace bx1 := bx1.next hb
  replace hp0 := hp0.next hb
  replace hp1 := hp1.next hb
  replace bx3 := bx3.next hb
  replace hB := hB.trans (hb.mono hB.size)
  clear hb
  go_wp2_with fail
  refine (crright hq1 HR.out).mono ?_
  rintro e w5 ⟨rfl, hb⟩
  replace bx0 := bx0.next hb
  replace bx1 := bx1.next hb
  replace hp0 := hp0.next hb
  replace hp1 := hp1.next hb
  replace bx3 := bx3.next hb
  replace hq1 := hq1.next hb
  replace hB := hB.trans (hb.mono hB.size)
  clear hb
  obtain ⟨d0, d1, d2⟩ := three_cells bx3
  have hl0 := bx3.lt
  go_wp2_with fail
  clear d0 d1 d2
  clear hl0
  refine (fixed8_any _).mono ?_
  rintro e w6 ⟨rfl, hb⟩
  replace bx0 := bx0.next hb
  replace bx1 := bx1.next hb
  replace hp0 := hp0.next hb
  replace hp1 := hp1.next hb
  replace bx3 := bx3.next hb
  replace hq1 := hq1.next hb
  replace hB := hB.trans (hb.mono hB.size)
  clear hb
  go_wp2_with fail
  go_ret
  exact ⟨rfl, hB⟩

set_option maxRecDepth 100000 in
set_option maxHeartbeats 8000000 in
theorem walk_full (v0 : Value) (a0 : La) (v1 : Value) (f1 : Fr) (w : World) (h0 : LaIs false w 0 w.heap.size v0 a0) (h1 : FrIs false w 0 w.heap.size v1 f1) (hq : La.right (La.cut a0) = true) (hr : Fr.right (Fr.cut f1) = true) (hm : La.right (La.more (La.cut a0) (Fr.cut f1)) = false) :
    Calls Try.prog 7 #[v0, v1] w fun x w' => x = .returned (.bool true) ∧ Below w.heap.size w w' := by
  have HRF := Lib.hid hr; clear hr
  have HRM := Lib.hid hm; clear hm
  have HQ0 := Lib.hid hq; clear hq
  obtain ⟨a0A, a0c, rfl, _⟩ := id h0
  obtain ⟨P0, hP0⟩ : ∃ P, La.cut a0 = P := ⟨_, rfl⟩
  have hs0 : P0.Small := hP0 ▸ La.cut_small _
  have HP0 := Lib.hid hP0; have HS0 := Lib.hid hs0; clear hP0 hs0
  obtain ⟨a1A, a1B, a1k, a1l, rfl, _, _⟩ := id h1
  obtain ⟨P1, hP1⟩ : ∃ P, Fr.cut f1 = P := ⟨_, rfl⟩
  have hs1 : P1.Small := hP1 ▸ Fr.cut_small _
  have HP1 := Lib.hid hP1; have HS1 := Lib.hid hs1; clear hP1 hs1
  go_enter Try.func7, Try.ntmps7
  try simp only [List.append_eq, List.cons_append, List.nil_append]
  go_wp2_with fail
  refine name_call fun W0 hW0 => ?_
  have bx0 : Box W0 (w.heap.size) #[.bool a0.fifo, .int .i64 a0.cap, .slice a0A a0.l.length a0c] 25 := hW0 ▸ ((Box.new' #[.bool a0.fifo, .int .i64 a0.cap, .slice a0A a0.l.length a0c] 25 (by simp)).alloc _)
  have bx1 : Box W0 (w.heap.size + 1) #[.int .i64 f1.kind, .int .i64 f1.epoch, .int .i64 f1.seq, .int .i64 f1.letter, .slice a1A f1.pieces.length a1k, .int .i64 f1.init, .int .i64 f1.num, .int .i64 f1.count, .slice a1B f1.path.length a1l] 37 := hW0 ▸ (Box.new' #[.int .i64 f1.kind, .int .i64 f1.epoch, .int .i64 f1.seq, .int .i64 f1.letter, .slice a1A f1.pieces.length a1k, .int .i64 f1.init, .int .i64 f1.num, .int .i64 f1.count, .slice a1B f1.path.length a1l] 37 (by simp))
  have hB : Below w.heap.size w W0 := hW0 ▸ (((Below.refl _ _).alloc (by first | (simp; done) | (simp; omega)) _).alloc (by first | (simp; done) | (simp; omega)) _)
  have hlo : w.heap.size + 1 + 1 ≤ W0.heap.size := hW0 ▸ (by simp)
  clear hW0
  refine (clacut (h0.next hB) HP0.out).mono ?_
  rintro e w1 ⟨⟨P0A, P0c, rfl, hp0⟩, hb⟩
  replace bx0 := bx0.next hb
  replace bx1 := bx1.next hb
  replace hp0 := hp0.widen hlo (Nat.le_refl _)
  replace hB := hB.trans (hb.mono hB.size)
  replace hlo := Nat.le_trans hlo hb.size
  clear hb
  obtain ⟨d0, d1, d2⟩ := three_cells bx0
  have df0 := three_free bx0 0
  have df1 := three_free bx0 1
  have df2 := three_free bx0 2
  have hl0 := bx0.lt
  obtain ⟨g0, g1, g2, g3, g4, g5, g6, g7, g8⟩ := nine_cells bx1
  have hl1 := bx1.lt
  go_wp2_with fail
  clear d0 d1 d2 df0 df1 df2 hl0
  clear g0 g1 g2 g3 g4 g5 g6 g7 g8
  clear hl1
  refine name_call fun W hW => ?_
  have qx0 : Box W w.heap.size #[.bool P0.fifo, .int .i64 P0.cap, .slice P0A P0.l.length P0c] 25 := by rw [← hW]; exact blk_set (blk_set (blk_set bx0 0 _) 1 _) 2 _
  have qbx1 : Box W (w.heap.size + 1) #[.int .i64 f1.kind, .int .i64 f1.epoch, .int .i64 f1.seq, .int .i64 f1.letter, .slice a1A f1.pieces.length a1k, .int .i64 f1.init, .int .i64 f1.num, .int .i64 f1.count, .slice a1B f1.path.length a1l] 37 := by rw [← hW]; exact (three_other (by omega)).trans bx1
  have qp0 : LaIs false W (w.heap.size + 1 + 1) W.heap.size (.agg #[.bool P0.fifo, .int .i64 P0.cap, .slice P0A P0.l.length P0c]) P0 := by rw [← hW]; exact (hp0.keep fun b h1 _ => three_other (by omega)).widen (Nat.le_refl _) (Nat.le_of_eq three_size.symm)
  have qB : Below w.heap.size w W := by rw [← hW]; exact ((hB.setCell (by simp) _).setCell (by simp) _).setCell (by simp) _
  have qlo : w.heap.size + 1 + 1 ≤ W.heap.size := by rw [← hW]; exact Nat.le_trans hlo (Nat.le_of_eq three_size.symm)
  clear bx0 bx1 hp0 hB hlo hW
  have bx0 := qx0; clear qx0
  have bx1 := qbx1; clear qbx1
  have hp0 := qp0; have hB := qB; have hlo := qlo; clear qp0 qB qlo
  obtain ⟨W1, rfl⟩ : ∃ x : World, x = W := ⟨_, rfl⟩
  refine (ccut (f := P1) (h1.keep (fun b _ q => hB.block b q) |>.widen (Nat.le_refl _) hB.size) HP1.out).mono ?_
  rintro e w2 ⟨⟨P1A, P1k, P1B, P1l, rfl, hp1⟩, hb⟩
  replace bx0 := bx0.next hb
  replace bx1 := bx1.next hb
  replace hp0 := hp0.next hb
  replace hp1 := hp1.widen hlo (Nat.le_refl _)
  replace hB := hB.trans (hb.mono hB.size)
  replace hlo := Nat.le_trans hlo hb.size
  clear hb
  obtain ⟨g0, g1, g2, g3, g4, g5, g6, g7, g8⟩ := nine_cells bx1
  obtain ⟨c0, c1, c2, c3, c4, c5, c6, c7, c8⟩ := nine_free bx1
  have hl1 := bx1.lt
  obtain ⟨d0, d1, d2⟩ := three_cells bx0
  have hl0 := bx0.lt
  go_wp2_with fail
  clear g0 g1 g2 g3 g4 g5 g6 g7 g8
  clear c0 c1 c2 c3 c4 c5 c6 c7 c8
  clear hl1 d0 d1 d2 hl0
  refine name_call fun W hW => ?_
  have qbx0 : Box W w.heap.size #[.bool P0.fifo, .int .i64 P0.cap, .slice P0A P0.l.length P0c] 25 := by rw [← hW]; exact (nine_far (by omega)).trans bx0
  have qbx1 : Box W (w.heap.size + 1) #[.int .i64 P1.kind, .int .i64 P1.epoch, .int .i64 P1.seq, .int .i64 P1.letter, .slice P1A P1.pieces.length P1k, .int .i64 P1.init, .int .i64 P1.num, .int .i64 P1.count, .slice P1B P1.path.length P1l] 37 := by rw [← hW]; exact nine_box bx1
  have qp0 : LaIs false W (w.heap.size + 1 + 1) W.heap.size (.agg #[.bool P0.fifo, .int .i64 P0.cap, .slice P0A P0.l.length P0c]) P0 := by rw [← hW]; exact (hp0.keep fun b h1 _ => Go.Proofs.Ytkkbblpofhenpaa.nine_far (by omega)).widen (Nat.le_refl _) (Nat.le_of_eq nine_size.symm)
  have qp1 : FrIs false W (w.heap.size + 1 + 1) W.heap.size (.agg #[.int .i64 P1.kind, .int .i64 P1.epoch, .int .i64 P1.seq, .int .i64 P1.letter, .slice P1A P1.pieces.length P1k, .int .i64 P1.init, .int .i64 P1.num, .int .i64 P1.count, .slice P1B P1.path.length P1l]) P1 := by rw [← hW]; exact (hp1.soft.keep fun b h1 _ => Go.Proofs.Ytkkbblpofhenpaa.nine_far (by omega)).widen (Nat.le_refl _) (Nat.le_of_eq nine_size.symm)
  have qB : Below w.heap.size w W := by rw [← hW]; exact nine_below hB (by omega)
  have qlo : w.heap.size + 1 + 1 ≤ W.heap.size := by rw [← hW]; exact Nat.le_trans hlo (Nat.le_of_eq nine_size.symm)
  clear bx0 bx1 hp0 hp1 hB hlo hW
  have bx0 := qbx0; clear qbx0
  have bx1 := qbx1; clear qbx1
  have hp0 := qp0; have hp1 := qp1; have hB := qB; have hlo := qlo; clear qp0 qp1 qB qlo
  clear hlo
  obtain ⟨W0, rfl⟩ : ∃ x : World, x = W := ⟨_, rfl⟩
  replace hp0 := hp0.zero_
  replace hp1 := hp1.zero_
  have HQ := Lib.hid (HP0.out ▸ HQ0.out)
  obtain ⟨d0, d1, d2⟩ := three_cells bx0
  have hl0 := bx0.lt
  refine (claref hp0 HS0.out).mono ?_
  rintro e w1 ⟨⟨RA, Rc, rfl, hr⟩, hb⟩
  replace bx0 := bx0.next hb
  replace bx1 := bx1.next hb
  replace hp0 := hp0.next hb
  replace hp1 := hp1.next hb
  replace hB := hB.trans (hb.mono hB.size)
  clear hb
  go_wp2_with fail
  refine (craright hr HQ.out).mono ?_
  rintro e w2 ⟨rfl, hb⟩
  replace bx0 := bx0.next hb
  replace bx1 := bx1.next hb
  replace hp0 := hp0.next hb
  replace hp1 := hp1.next hb
  replace hr := hr.next hb
  replace hB := hB.trans (hb.mono hB.size)
  clear hb
  clear hr
  clear d0 d1 d2
  clear hl0
  obtain ⟨d0, d1, d2⟩ := three_cells bx0
  have hl0 := bx0.lt
  have HR := Lib.hid (show Fr.right P1 = _ from HP1.out ▸ HRF.out)
  have HM := Lib.hid (show La.right (La.more P0 P1) = _ from HP0.out ▸ HP1.out ▸ HRM.out)
  obtain ⟨d0, d1, d2⟩ := three_cells bx0
  have hl0 := bx0.lt
  obtain ⟨g0, g1, g2, g3, g4, g5, g6, g7, g8⟩ := nine_cells bx1
  have hl1 := bx1.lt
  go_wp2_with fail
  clear d0 d1 d2
  clear hl0
  clear g0 g1 g2 g3 g4 g5 g6 g7 g8
  clear hl1
  refine (cpushI (lo := 0) ⟨false, 0, []⟩ 6 (Nat.zero_le _) hp0 hp1 HS0.out.len' (La.push_full HR.out HM.out).1 (La.push_full HR.out HM.out).2).mono ?_
  rintro e w3 ⟨⟨XA, Xc, rfl, _⟩, hb⟩
  replace bx0 := bx0.next hb
  replace bx1 := bx1.next hb
  replace hp0 := hp0.next hb
  replace hp1 := hp1.next hb
  replace hB := hB.trans (hb.mono hB.size)
  clear hb
  dsimp only [List.length_nil]
  obtain ⟨d0, d1, d2, d3, d4, d5, d6, d7, d8⟩ := nine_cells bx1
  have hl0 := bx1.lt
  go_wp2_with fail
  clear d0 d1 d2 d3 d4 d5 d6 d7 d8
  clear hl0
  refine name_call fun W5 hW5 => ?_
  have bx3 : Box W5 (w3.heap.size) #[.bool false, .int .i64 0, .slice XA 0 Xc] 25 := hW5 ▸ (Box.new' #[.bool false, .int .i64 0, .slice XA 0 Xc] 25 (by simp))
  have hb : Below w3.heap.size w3 W5 := hW5 ▸ ((Below.refl _ _).alloc (by first | (simp; done) | (simp; omega)) _)
  clear hW5
  replace bx0 := bx0.next hb
  replace bx1 := bx1.next hb
  replace hp0 := hp0.next hb
  replace hp1 := hp1.next hb
  replace hB := hB.trans (hb.mono hB.size)
  clear hb
  refine (cref hp1 HS1.out).mono ?_
  rintro e w4 ⟨⟨QA, Qk, QB, Ql, rfl, hq1⟩, hb⟩
  replace bx0 := bx0.next hb
  replace bx1 := bx1.next hb
  replace hp0 := hp0.next hb
  replace hp1 := hp1.next hb
  replace bx3 := bx3.next hb
  replace hB := hB.trans (hb.mono hB.size)
  clear hb
  go_wp2_with fail
  refine (crright hq1 HR.out).mono ?_
  rintro e w5 ⟨rfl, hb⟩
  replace bx0 := bx0.next hb
  replace bx1 := bx1.next hb
  replace hp0 := hp0.next hb
  replace hp1 := hp1.next hb
  replace bx3 := bx3.next hb
  replace hq1 := hq1.next hb
  replace hB := hB.trans (hb.mono hB.size)
  clear hb
  obtain ⟨d0, d1, d2⟩ := three_cells bx3
  have hl0 := bx3.lt
  go_wp2_with fail
  clear d0 d1 d2
  clear hl0
  refine (fixed8_any _).mono ?_
  rintro e w6 ⟨rfl, hb⟩
  replace bx0 := bx0.next hb
  replace bx1 := bx1.next hb
  replace hp0 := hp0.next hb
  replace hp1 := hp1.next hb
  replace bx3 := bx3.next hb
  replace hq1 := hq1.next hb
  replace hB := hB.trans (hb.mono hB.size)
  clear hb
  go_wp2_with fail
  go_ret
  exact ⟨rfl, hB⟩

set_option maxRecDepth 100000 in
set_option maxHeartbeats 8000000 in
theorem walk_fifo (v0 : Value) (a0 : La) (v1 : Value) (f1 : Fr) (w : World) (h0 : LaIs false w 0 w.heap.size v0 a0) (h1 : FrIs false w 0 w.heap.size v1 f1) (hq : La.right (La.cut a0) = true) (hr : Fr.right (Fr.cut f1) = true) (hm : La.right (La.more (La.cut a0) (Fr.cut f1)) = true) (hfi : (La.cut a0).fifo = true) (hln : 0 < (La.cut a0).l.length) :
    Calls Try.prog 7 #[v0, v1] w fun x w' => x = .returned (.bool true) ∧ Below w.heap.size w w' := by
  have HRF := Lib.hid hr; clear hr
  have HRM := Lib.hid hm; clear hm
  have HFF := Lib.hid hfi; clear hfi
  have HLN := Lib.hid hln; clear hln
  have HQ0 := Lib.hid hq; clear hq
  obtain ⟨a0A, a0c, rfl, _⟩ := id h0
  obtain ⟨P0, hP0⟩ : ∃ P, La.cut a0 = P := ⟨_, rfl⟩
  have hs0 : P0.Small := hP0 ▸ La.cut_small _
  have HP0 := Lib.hid hP0; have HS0 := Lib.hid hs0; clear hP0 hs0
  obtain ⟨a1A, a1B, a1k, a1l, rfl, _, _⟩ := id h1
  obtain ⟨P1, hP1⟩ : ∃ P, Fr.cut f1 = P := ⟨_, rfl⟩
  have hs1 : P1.Small := hP1 ▸ Fr.cut_small _
  have HP1 := Lib.hid hP1; have HS1 := Lib.hid hs1; clear hP1 hs1
  go_enter Try.func7, Try.ntmps7
  try simp only [List.append_eq, List.cons_append, List.nil_append]
  go_wp2_with fail
  refine name_call fun W0 hW0 => ?_
  have bx0 : Box W0 (w.heap.size) #[.bool a0.fifo, .int .i64 a0.cap, .slice a0A a0.l.length a0c] 25 := hW0 ▸ ((Box.new' #[.bool a0.fifo, .int .i64 a0.cap, .slice a0A a0.l.length a0c] 25 (by simp)).alloc _)
  have bx1 : Box W0 (w.heap.size + 1) #[.int .i64 f1.kind, .int .i64 f1.epoch, .int .i64 f1.seq, .int .i64 f1.letter, .slice a1A f1.pieces.length a1k, .int .i64 f1.init, .int .i64 f1.num, .int .i64 f1.count, .slice a1B f1.path.length a1l] 37 := hW0 ▸ (Box.new' #[.int .i64 f1.kind, .int .i64 f1.epoch, .int .i64 f1.seq, .int .i64 f1.letter, .slice a1A f1.pieces.length a1k, .int .i64 f1.init, .int .i64 f1.num, .int .i64 f1.count, .slice a1B f1.path.length a1l] 37 (by simp))
  have hB : Below w.heap.size w W0 := hW0 ▸ (((Below.refl _ _).alloc (by first | (simp; done) | (simp; omega)) _).alloc (by first | (simp; done) | (simp; omega)) _)
  have hlo : w.heap.size + 1 + 1 ≤ W0.heap.size := hW0 ▸ (by simp)
  clear hW0
  refine (clacut (h0.next hB) HP0.out).mono ?_
  rintro e w1 ⟨⟨P0A, P0c, rfl, hp0⟩, hb⟩
  replace bx0 := bx0.next hb
  replace bx1 := bx1.next hb
  replace hp0 := hp0.widen hlo (Nat.le_refl _)
  replace hB := hB.trans (hb.mono hB.size)
  replace hlo := Nat.le_trans hlo hb.size
  clear hb
  obtain ⟨d0, d1, d2⟩ := three_cells bx0
  have df0 := three_free bx0 0
  have df1 := three_free bx0 1
  have df2 := three_free bx0 2
  have hl0 := bx0.lt
  obtain ⟨g0, g1, g2, g3, g4, g5, g6, g7, g8⟩ := nine_cells bx1
  have hl1 := bx1.lt
  go_wp2_with fail
  clear d0 d1 d2 df0 df1 df2 hl0
  clear g0 g1 g2 g3 g4 g5 g6 g7 g8
  clear hl1
  refine name_call fun W hW => ?_
  have qx0 : Box W w.heap.size #[.bool P0.fifo, .int .i64 P0.cap, .slice P0A P0.l.length P0c] 25 := by rw [← hW]; exact blk_set (blk_set (blk_set bx0 0 _) 1 _) 2 _
  have qbx1 : Box W (w.heap.size + 1) #[.int .i64 f1.kind, .int .i64 f1.epoch, .int .i64 f1.seq, .int .i64 f1.letter, .slice a1A f1.pieces.length a1k, .int .i64 f1.init, .int .i64 f1.num, .int .i64 f1.count, .slice a1B f1.path.length a1l] 37 := by rw [← hW]; exact (three_other (by omega)).trans bx1
  have qp0 : LaIs false W (w.heap.size + 1 + 1) W.heap.size (.agg #[.bool P0.fifo, .int .i64 P0.cap, .slice P0A P0.l.length P0c]) P0 := by rw [← hW]; exact (hp0.keep fun b h1 _ => three_other (by omega)).widen (Nat.le_refl _) (Nat.le_of_eq three_size.symm)
  have qB : Below w.heap.size w W := by rw [← hW]; exact ((hB.setCell (by simp) _).setCell (by simp) _).setCell (by simp) _
  have qlo : w.heap.size + 1 + 1 ≤ W.heap.size := by rw [← hW]; exact Nat.le_trans hlo (Nat.le_of_eq three_size.symm)
  clear bx0 bx1 hp0 hB hlo hW
  have bx0 := qx0; clear qx0
  have bx1 := qbx1; clear qbx1
  have hp0 := qp0; have hB := qB; have hlo := qlo; clear qp0 qB qlo
  obtain ⟨W1, rfl⟩ : ∃ x : World, x = W := ⟨_, rfl⟩
  refine (ccut (f := P1) (h1.keep (fun b _ q => hB.block b q) |>.widen (Nat.le_refl _) hB.size) HP1.out).mono ?_
  rintro e w2 ⟨⟨P1A, P1k, P1B, P1l, rfl, hp1⟩, hb⟩
  replace bx0 := bx0.next hb
  replace bx1 := bx1.next hb
  replace hp0 := hp0.next hb
  replace hp1 := hp1.widen hlo (Nat.le_refl _)
  replace hB := hB.trans (hb.mono hB.size)
  replace hlo := Nat.le_trans hlo hb.size
  clear hb
  obtain ⟨g0, g1, g2, g3, g4, g5, g6, g7, g8⟩ := nine_cells bx1
  obtain ⟨c0, c1, c2, c3, c4, c5, c6, c7, c8⟩ := nine_free bx1
  have hl1 := bx1.lt
  obtain ⟨d0, d1, d2⟩ := three_cells bx0
  have hl0 := bx0.lt
  go_wp2_with fail
  clear g0 g1 g2 g3 g4 g5 g6 g7 g8
  clear c0 c1 c2 c3 c4 c5 c6 c7 c8
  clear hl1 d0 d1 d2 hl0
  refine name_call fun W hW => ?_
  have qbx0 : Box W w.heap.size #[.bool P0.fifo, .int .i64 P0.cap, .slice P0A P0.l.length P0c] 25 := by rw [← hW]; exact (nine_far (by omega)).trans bx0
  have qbx1 : Box W (w.heap.size + 1) #[.int .i64 P1.kind, .int .i64 P1.epoch, .int .i64 P1.seq, .int .i64 P1.letter, .slice P1A P1.pieces.length P1k, .int .i64 P1.init, .int .i64 P1.num, .int .i64 P1.count, .slice P1B P1.path.length P1l] 37 := by rw [← hW]; exact nine_box bx1
  have qp0 : LaIs false W (w.heap.size + 1 + 1) W.heap.size (.agg #[.bool P0.fifo, .int .i64 P0.cap, .slice P0A P0.l.length P0c]) P0 := by rw [← hW]; exact (hp0.keep fun b h1 _ => Go.Proofs.Ytkkbblpofhenpaa.nine_far (by omega)).widen (Nat.le_refl _) (Nat.le_of_eq nine_size.symm)
  have qp1 : FrIs false W (w.heap.size + 1 + 1) W.heap.size (.agg #[.int .i64 P1.kind, .int .i64 P1.epoch, .int .i64 P1.seq, .int .i64 P1.letter, .slice P1A P1.pieces.length P1k, .int .i64 P1.init, .int .i64 P1.num, .int .i64 P1.count, .slice P1B P1.path.length P1l]) P1 := by rw [← hW]; exact (hp1.soft.keep fun b h1 _ => Go.Proofs.Ytkkbblpofhenpaa.nine_far (by omega)).widen (Nat.le_refl _) (Nat.le_of_eq nine_size.symm)
  have qB : Below w.heap.size w W := by rw [← hW]; exact nine_below hB (by omega)
  have qlo : w.heap.size + 1 + 1 ≤ W.heap.size := by rw [← hW]; exact Nat.le_trans hlo (Nat.le_of_eq nine_size.symm)
  clear bx0 bx1 hp0 hp1 hB hlo hW
  have bx0 := qbx0; clear qbx0
  have bx1 := qbx1; clear qbx1
  have hp0 := qp0; have hp1 := qp1; have hB := qB; have hlo := qlo; clear qp0 qp1 qB qlo
  clear hlo
  obtain ⟨W0, rfl⟩ : ∃ x : World, x = W := ⟨_, rfl⟩
  replace hp0 := hp0.zero_
  replace hp1 := hp1.zero_
  have HQ := Lib.hid (HP0.out ▸ HQ0.out)
  obtain ⟨d0, d1, d2⟩ := three_cells bx0
  have hl0 := bx0.lt
  refine (claref hp0 HS0.out).mono ?_
  rintro e w1 ⟨⟨RA, Rc, rfl, hr⟩, hb⟩
  replace bx0 := bx0.next hb
  replace bx1 := bx1.next hb
  replace hp0 := hp0.next hb
  replace hp1 := hp1.next hb
  replace hB := hB.trans (hb.mono hB.size)
  clear hb
  go_wp2_with fail
  refine (craright hr HQ.out).mono ?_
  rintro e w2 ⟨rfl, hb⟩
  replace bx0 := bx0.next hb
  replace bx1 := bx1.next hb
  replace hp0 := hp0.next hb
  replace hp1 := hp1.next hb
  replace hr := hr.next hb
  replace hB := hB.trans (hb.mono hB.size)
  clear hb
  clear hr
  clear d0 d1 d2
  clear hl0
  obtain ⟨d0, d1, d2⟩ := three_cells bx0
  have hl0 := bx0.lt
  have HR := Lib.hid (show Fr.right P1 = _ from HP1.out ▸ HRF.out)
  have HM := Lib.hid (show La.right (La.more P0 P1) = _ from HP0.out ▸ HP1.out ▸ HRM.out)
  obtain ⟨d0, d1, d2⟩ := three_cells bx0
  have hl0 := bx0.lt
  obtain ⟨g0, g1, g2, g3, g4, g5, g6, g7, g8⟩ := nine_cells bx1
  have hl1 := bx1.lt
  go_wp2_with fail
  clear d0 d1 d2
  clear hl0
  clear g0 g1 g2 g3 g4 g5 g6 g7 g8
  clear hl1
  have hpk := La.push_ok HR.out HM.out
  have hbs := La.more_small HS0.out HS1.out HM.out
  obtain ⟨B1, hb1⟩ : ∃ b, La.more P0 P1 = b := ⟨_, rfl⟩
  have hln1 : B1.l.length = P0.l.length + 1 := hb1 ▸ La.more_len _ _
  rw [hb1] at hpk hbs
  have HPK := Lib.hid hpk; have HB1 := Lib.hid hb1; have HBS := Lib.hid hbs; have HLN1 := Lib.hid hln1; clear hpk hb1 hbs hln1
  refine (cpushI (lo := 0) B1 0 (Nat.zero_le _) hp0 hp1 HS0.out.len' HPK.out.1 HPK.out.2).mono ?_
  rintro e w3 ⟨⟨B1A, B1c, rfl, hx1⟩, hb⟩
  replace bx0 := bx0.next hb
  replace bx1 := bx1.next hb
  replace hp0 := hp0.next hb
  replace hp1 := hp1.next hb
  replace hB := hB.trans (hb.mono hB.size)
  clear hb
  rw [HLN1.out] at hx1 ⊢
  have hlast := (La.last_fifo (f := P1) (show P0.fifo = true from HP0.out ▸ HFF.out) (show 0 < P0.l.length from HP0.out ▸ HLN.out))
  rw [HB1.out] at hlast
  have HLAST := Lib.hid hlast; clear hlast
  have hi63 : wrap64 (P0.l.length : Int) = (P0.l.length : Int) := by have := HS0.out.len; unfold wrap64; omega
  go_upto_region 8 with fail
  refine name_wp fun W8 hW8 => ?_
  have bx3 : Box W8 (w3.heap.size) #[.bool B1.fifo, .int .i64 B1.cap, .slice B1A (P0.l.length + 1) B1c] 25 := hW8 ▸ (Box.new' #[.bool B1.fifo, .int .i64 B1.cap, .slice B1A (P0.l.length + 1) B1c] 25 (by simp))
  have hb : Below w3.heap.size w3 W8 := hW8 ▸ ((Below.refl _ _).alloc (by first | (simp; done) | (simp; omega)) _)
  clear hW8
  replace bx0 := bx0.next hb
  replace bx1 := bx1.next hb
  replace hp0 := hp0.next hb
  replace hp1 := hp1.next hb
  replace hx1 := hx1.next hb
  replace hB := hB.trans (hb.mono hB.size)
  clear hb
  obtain ⟨d0, d1, d2⟩ := three_cells bx3
  have hl0 := bx3.lt
  go_wp2_with fail
  clear d0 d1 d2
  clear hl0
  refine (ctakeI (lo := 0) ⟨0, 0, 0, 0, [], 0, 0, 0, []⟩ ⟨false, 0, []⟩ 3 (P0.l.length : Int) (Nat.zero_le _) hx1 HBS.out.len HLAST.out.2.1 HLAST.out.1 HLAST.out.2.2).mono ?_
  rintro e w4 ⟨⟨F2A, F2k, F2B, F2l, B2A, B2c, rfl, hx5, hx6⟩, hb⟩
  replace bx0 := bx0.next hb
  replace bx1 := bx1.next hb
  replace hp0 := hp0.next hb
  replace hp1 := hp1.next hb
  replace hx1 := hx1.next hb
  replace bx3 := bx3.next hb
  replace hB := hB.trans (hb.mono hB.size)
  clear hb
  dsimp only [List.length_nil] at hx5 hx6 ⊢
  have hfi : P0.fifo = true := HP0.out ▸ HFF.out
  have hgt : (P0.l.length : Int) > 0 := by have : 0 < P0.l.length := HP0.out ▸ HLN.out; omega
  obtain ⟨d0, d1, d2⟩ := three_cells bx0
  have hl0 := bx0.lt
  go_wp2_with fail
  clear d0 d1 d2
  clear hl0
  refine name_call fun W9 hW9 => ?_
  have hb : Below w4.heap.size w4 W9 := hW9 ▸ ((Below.refl _ _).alloc (Nat.le_refl _) _).alloc (by simp) _
  clear hW9
  replace bx0 := bx0.next hb
  replace bx1 := bx1.next hb
  replace hp0 := hp0.next hb
  replace hp1 := hp1.next hb
  replace hx1 := hx1.next hb
  replace bx3 := bx3.next hb
  replace hx5 := hx5.next hb
  replace hx6 := hx6.next hb
  replace hB := hB.trans (hb.mono hB.size)
  clear hb
  refine (fixed8_any _).mono ?_
  rintro e w5 ⟨rfl, hb⟩
  replace bx0 := bx0.next hb
  replace bx1 := bx1.next hb
  replace hp0 := hp0.next hb
  replace hp1 := hp1.next hb
  replace hx1 := hx1.next hb
  replace bx3 := bx3.next hb
  replace hx5 := hx5.next hb
  replace hx6 := hx6.next hb
  replace hB := hB.trans (hb.mono hB.size)
  clear hb
  go_wp2_with fail
  go_ret
  exact ⟨rfl, hB⟩

set_option maxRecDepth 100000 in
set_option maxHeartbeats 8000000 in
theorem walk_free (v0 : Value) (a0 : La) (v1 : Value) (f1 : Fr) (w : World) (h0 : LaIs false w 0 w.heap.size v0 a0) (h1 : FrIs false w 0 w.heap.size v1 f1) (hq : La.right (La.cut a0) = true) (hr : Fr.right (Fr.cut f1) = true) (hm : La.right (La.more (La.cut a0) (Fr.cut f1)) = true) (hfi : (La.cut a0).fifo = false) :
    Calls Try.prog 7 #[v0, v1] w fun x w' => x = .returned (.bool true) ∧ Below w.heap.size w w' := by
  have HRF := Lib.hid hr; clear hr
  have HRM := Lib.hid hm; clear hm
  have HFF := Lib.hid hfi; clear hfi
  have HQ0 := Lib.hid hq; clear hq
  obtain ⟨a0A, a0c, rfl, _⟩ := id h0
  obtain ⟨P0, hP0⟩ : ∃ P, La.cut a0 = P := ⟨_, rfl⟩
  have hs0 : P0.Small := hP0 ▸ La.cut_small _
  have HP0 := Lib.hid hP0; have HS0 := Lib.hid hs0; clear hP0 hs0
  obtain ⟨a1A, a1B, a1k, a1l, rfl, _, _⟩ := id h1
  obtain ⟨P1, hP1⟩ : ∃ P, Fr.cut f1 = P := ⟨_, rfl⟩
  have hs1 : P1.Small := hP1 ▸ Fr.cut_small _
  have HP1 := Lib.hid hP1; have HS1 := Lib.hid hs1; clear hP1 hs1
  go_enter Try.func7, Try.ntmps7
  try simp only [List.append_eq, List.cons_append, List.nil_append]
  go_wp2_with fail
  refine name_call fun W0 hW0 => ?_
  have bx0 : Box W0 (w.heap.size) #[.bool a0.fifo, .int .i64 a0.cap, .slice a0A a0.l.length a0c] 25 := hW0 ▸ ((Box.new' #[.bool a0.fifo, .int .i64 a0.cap, .slice a0A a0.l.length a0c] 25 (by simp)).alloc _)
  have bx1 : Box W0 (w.heap.size + 1) #[.int .i64 f1.kind, .int .i64 f1.epoch, .int .i64 f1.seq, .int .i64 f1.letter, .slice a1A f1.pieces.length a1k, .int .i64 f1.init, .int .i64 f1.num, .int .i64 f1.count, .slice a1B f1.path.length a1l] 37 := hW0 ▸ (Box.new' #[.int .i64 f1.kind, .int .i64 f1.epoch, .int .i64 f1.seq, .int .i64 f1.letter, .slice a1A f1.pieces.length a1k, .int .i64 f1.init, .int .i64 f1.num, .int .i64 f1.count, .slice a1B f1.path.length a1l] 37 (by simp))
  have hB : Below w.heap.size w W0 := hW0 ▸ (((Below.refl _ _).alloc (by first | (simp; done) | (simp; omega)) _).alloc (by first | (simp; done) | (simp; omega)) _)
  have hlo : w.heap.size + 1 + 1 ≤ W0.heap.size := hW0 ▸ (by simp)
  clear hW0
  refine (clacut (h0.next hB) HP0.out).mono ?_
  rintro e w1 ⟨⟨P0A, P0c, rfl, hp0⟩, hb⟩
  replace bx0 := bx0.next hb
  replace bx1 := bx1.next hb
  replace hp0 := hp0.widen hlo (Nat.le_refl _)
  replace hB := hB.trans (hb.mono hB.size)
  replace hlo := Nat.le_trans hlo hb.size
  clear hb
  obtain ⟨d0, d1, d2⟩ := three_cells bx0
  have df0 := three_free bx0 0
  have df1 := three_free bx0 1
  have df2 := three_free bx0 2
  have hl0 := bx0.lt
  obtain ⟨g0, g1, g2, g3, g4, g5, g6, g7, g8⟩ := nine_cells bx1
  have hl1 := bx1.lt
  go_wp2_with fail
  clear d0 d1 d2 df0 df1 df2 hl0
  clear g0 g1 g2 g3 g4 g5 g6 g7 g8
  clear hl1
  refine name_call fun W hW => ?_
  have qx0 : Box W w.heap.size #[.bool P0.fifo, .int .i64 P0.cap, .slice P0A P0.l.length P0c] 25 := by rw [← hW]; exact blk_set (blk_set (blk_set bx0 0 _) 1 _) 2 _
  have qbx1 : Box W (w.heap.size + 1) #[.int .i64 f1.kind, .int .i64 f1.epoch, .int .i64 f1.seq, .int .i64 f1.letter, .slice a1A f1.pieces.length a1k, .int .i64 f1.init, .int .i64 f1.num, .int .i64 f1.count, .slice a1B f1.path.length a1l] 37 := by rw [← hW]; exact (three_other (by omega)).trans bx1
  have qp0 : LaIs false W (w.heap.size + 1 + 1) W.heap.size (.agg #[.bool P0.fifo, .int .i64 P0.cap, .slice P0A P0.l.length P0c]) P0 := by rw [← hW]; exact (hp0.keep fun b h1 _ => three_other (by omega)).widen (Nat.le_refl _) (Nat.le_of_eq three_size.symm)
  have qB : Below w.heap.size w W := by rw [← hW]; exact ((hB.setCell (by simp) _).setCell (by simp) _).setCell (by simp) _
  have qlo : w.heap.size + 1 + 1 ≤ W.heap.size := by rw [← hW]; exact Nat.le_trans hlo (Nat.le_of_eq three_size.symm)
  clear bx0 bx1 hp0 hB hlo hW
  have bx0 := qx0; clear qx0
  have bx1 := qbx1; clear qbx1
  have hp0 := qp0; have hB := qB; have hlo := qlo; clear qp0 qB qlo
  obtain ⟨W1, rfl⟩ : ∃ x : World, x = W := ⟨_, rfl⟩
  refine (ccut (f := P1) (h1.keep (fun b _ q => hB.block b q) |>.widen (Nat.le_refl _) hB.size) HP1.out).mono ?_
  rintro e w2 ⟨⟨P1A, P1k, P1B, P1l, rfl, hp1⟩, hb⟩
  replace bx0 := bx0.next hb
  replace bx1 := bx1.next hb
  replace hp0 := hp0.next hb
  replace hp1 := hp1.widen hlo (Nat.le_refl _)
  replace hB := hB.trans (hb.mono hB.size)
  replace hlo := Nat.le_trans hlo hb.size
  clear hb
  obtain ⟨g0, g1, g2, g3, g4, g5, g6, g7, g8⟩ := nine_cells bx1
  obtain ⟨c0, c1, c2, c3, c4, c5, c6, c7, c8⟩ := nine_free bx1
  have hl1 := bx1.lt
  obtain ⟨d0, d1, d2⟩ := three_cells bx0
  have hl0 := bx0.lt
  go_wp2_with fail
  clear g0 g1 g2 g3 g4 g5 g6 g7 g8
  clear c0 c1 c2 c3 c4 c5 c6 c7 c8
  clear hl1 d0 d1 d2 hl0
  refine name_call fun W hW => ?_
  have qbx0 : Box W w.heap.size #[.bool P0.fifo, .int .i64 P0.cap, .slice P0A P0.l.length P0c] 25 := by rw [← hW]; exact (nine_far (by omega)).trans bx0
  have qbx1 : Box W (w.heap.size + 1) #[.int .i64 P1.kind, .int .i64 P1.epoch, .int .i64 P1.seq, .int .i64 P1.letter, .slice P1A P1.pieces.length P1k, .int .i64 P1.init, .int .i64 P1.num, .int .i64 P1.count, .slice P1B P1.path.length P1l] 37 := by rw [← hW]; exact nine_box bx1
  have qp0 : LaIs false W (w.heap.size + 1 + 1) W.heap.size (.agg #[.bool P0.fifo, .int .i64 P0.cap, .slice P0A P0.l.length P0c]) P0 := by rw [← hW]; exact (hp0.keep fun b h1 _ => Go.Proofs.Ytkkbblpofhenpaa.nine_far (by omega)).widen (Nat.le_refl _) (Nat.le_of_eq nine_size.symm)
  have qp1 : FrIs false W (w.heap.size + 1 + 1) W.heap.size (.agg #[.int .i64 P1.kind, .int .i64 P1.epoch, .int .i64 P1.seq, .int .i64 P1.letter, .slice P1A P1.pieces.length P1k, .int .i64 P1.init, .int .i64 P1.num, .int .i64 P1.count, .slice P1B P1.path.length P1l]) P1 := by rw [← hW]; exact (hp1.soft.keep fun b h1 _ => Go.Proofs.Ytkkbblpofhenpaa.nine_far (by omega)).widen (Nat.le_refl _) (Nat.le_of_eq nine_size.symm)
  have qB : Below w.heap.size w W := by rw [← hW]; exact nine_below hB (by omega)
  have qlo : w.heap.size + 1 + 1 ≤ W.heap.size := by rw [← hW]; exact Nat.le_trans hlo (Nat.le_of_eq nine_size.symm)
  clear bx0 bx1 hp0 hp1 hB hlo hW
  have bx0 := qbx0; clear qbx0
  have bx1 := qbx1; clear qbx1
  have hp0 := qp0; have hp1 := qp1; have hB := qB; have hlo := qlo; clear qp0 qp1 qB qlo
  clear hlo
  obtain ⟨W0, rfl⟩ : ∃ x : World, x = W := ⟨_, rfl⟩
  replace hp0 := hp0.zero_
  replace hp1 := hp1.zero_
  have HQ := Lib.hid (HP0.out ▸ HQ0.out)
  obtain ⟨d0, d1, d2⟩ := three_cells bx0
  have hl0 := bx0.lt
  refine (claref hp0 HS0.out).mono ?_
  rintro e w1 ⟨⟨RA, Rc, rfl, hr⟩, hb⟩
  replace bx0 := bx0.next hb
  replace bx1 := bx1.next hb
  replace hp0 := hp0.next hb
  replace hp1 := hp1.next hb
  replace hB := hB.trans (hb.mono hB.size)
  clear hb
  go_wp2_with fail
  refine (craright hr HQ.out).mono ?_
  rintro e w2 ⟨rfl, hb⟩
  replace bx0 := bx0.next hb
  replace bx1 := bx1.next hb
  replace hp0 := hp0.next hb
  replace hp1 := hp1.next hb
  replace hr := hr.next hb
  replace hB := hB.trans (hb.mono hB.size)
  clear hb
  clear hr
  clear d0 d1 d2
  clear hl0
  obtain ⟨d0, d1, d2⟩ := three_cells bx0
  have hl0 := bx0.lt
  have HR := Lib.hid (show Fr.right P1 = _ from HP1.out ▸ HRF.out)
  have HM := Lib.hid (show La.right (La.more P0 P1) = _ from HP0.out ▸ HP1.out ▸ HRM.out)
  obtain ⟨d0, d1, d2⟩ := three_cells bx0
  have hl0 := bx0.lt
  obtain ⟨g0, g1, g2, g3, g4, g5, g6, g7, g8⟩ := nine_cells bx1
  have hl1 := bx1.lt
  go_wp2_with fail
  clear d0 d1 d2
  clear hl0
  clear g0 g1 g2 g3 g4 g5 g6 g7 g8
  clear hl1
  have hpk := La.push_ok HR.out HM.out
  have hbs := La.more_small HS0.out HS1.out HM.out
  obtain ⟨B1, hb1⟩ : ∃ b, La.more P0 P1 = b := ⟨_, rfl⟩
  have hln1 : B1.l.length = P0.l.length + 1 := hb1 ▸ La.more_len _ _
  rw [hb1] at hpk hbs
  have HPK := Lib.hid hpk; have HB1 := Lib.hid hb1; have HBS := Lib.hid hbs; have HLN1 := Lib.hid hln1; clear hpk hb1 hbs hln1
  refine (cpushI (lo := 0) B1 0 (Nat.zero_le _) hp0 hp1 HS0.out.len' HPK.out.1 HPK.out.2).mono ?_
  rintro e w3 ⟨⟨B1A, B1c, rfl, hx1⟩, hb⟩
  replace bx0 := bx0.next hb
  replace bx1 := bx1.next hb
  replace hp0 := hp0.next hb
  replace hp1 := hp1.next hb
  replace hB := hB.trans (hb.mono hB.size)
  clear hb
  rw [HLN1.out] at hx1 ⊢
  have hlast := (La.last_ok (a := P0) (f := P1) (fun h => by rw [show P0.fifo = false from HP0.out ▸ HFF.out] at h; cases h))
  rw [HB1.out] at hlast
  have HLAST := Lib.hid hlast; clear hlast
  have hi63 : wrap64 (P0.l.length : Int) = (P0.l.length : Int) := by have := HS0.out.len; unfold wrap64; omega
  go_upto_region 8 with fail
  refine name_wp fun W8 hW8 => ?_
  have bx3 : Box W8 (w3.heap.size) #[.bool B1.fifo, .int .i64 B1.cap, .slice B1A (P0.l.length + 1) B1c] 25 := hW8 ▸ (Box.new' #[.bool B1.fifo, .int .i64 B1.cap, .slice B1A (P0.l.length + 1) B1c] 25 (by simp))
  have hb : Below w3.heap.size w3 W8 := hW8 ▸ ((Below.refl _ _).alloc (by first | (simp; done) | (simp; omega)) _)
  clear hW8
  replace bx0 := bx0.next hb
  replace bx1 := bx1.next hb
  replace hp0 := hp0.next hb
  replace hp1 := hp1.next hb
  replace hx1 := hx1.next hb
  replace hB := hB.trans (hb.mono hB.size)
  clear hb
  obtain ⟨d0, d1, d2⟩ := three_cells bx3
  have hl0 := bx3.lt
  go_wp2_with fail
  clear d0 d1 d2
  clear hl0
  refine (ctakeI (lo := 0) P1 P0 0 (P0.l.length : Int) (Nat.zero_le _) hx1 HBS.out.len HLAST.out.2.1 HLAST.out.1 HLAST.out.2.2).mono ?_
  rintro e w4 ⟨⟨F2A, F2k, F2B, F2l, B2A, B2c, rfl, hx5, hx6⟩, hb⟩
  replace bx0 := bx0.next hb
  replace bx1 := bx1.next hb
  replace hp0 := hp0.next hb
  replace hp1 := hp1.next hb
  replace hx1 := hx1.next hb
  replace bx3 := bx3.next hb
  replace hB := hB.trans (hb.mono hB.size)
  clear hb
  have hfi : P0.fifo = false := HP0.out ▸ HFF.out
  obtain ⟨d0, d1, d2⟩ := three_cells bx0
  have hl0 := bx0.lt
  go_upto_region 11 with fail
  clear d0 d1 d2
  clear hl0
  refine name_wp fun W11 hW11 => ?_
  have bx7 : Box W11 (w4.heap.size) #[.int .i64 P1.kind, .int .i64 P1.epoch, .int .i64 P1.seq, .int .i64 P1.letter, .slice F2A P1.pieces.length F2k, .int .i64 P1.init, .int .i64 P1.num, .int .i64 P1.count, .slice F2B P1.path.length F2l] 37 := hW11 ▸ ((Box.new' #[.int .i64 P1.kind, .int .i64 P1.epoch, .int .i64 P1.seq, .int .i64 P1.letter, .slice F2A P1.pieces.length F2k, .int .i64 P1.init, .int .i64 P1.num, .int .i64 P1.count, .slice F2B P1.path.length F2l] 37 (by simp)).alloc _)
  have bx8 : Box W11 (w4.heap.size + 1) #[.bool false, .int .i64 P0.cap, .slice B2A P0.l.length B2c] 25 := hW11 ▸ (Box.new' #[.bool false, .int .i64 P0.cap, .slice B2A P0.l.length B2c] 25 (by simp))
  have hb : Below w4.heap.size w4 W11 := hW11 ▸ (((Below.refl _ _).alloc (by first | (simp; done) | (simp; omega)) _).alloc (by first | (simp; done) | (simp; omega)) _)
  clear hW11
  replace bx0 := bx0.next hb
  replace bx1 := bx1.next hb
  replace hp0 := hp0.next hb
  replace hp1 := hp1.next hb
  replace hx1 := hx1.next hb
  replace bx3 := bx3.next hb
  replace hx5 := hx5.next hb
  replace hx6 := hx6.next hb
  replace hB := hB.trans (hb.mono hB.size)
  clear hb
  rw [hfi] at hx6
  clear hfi
  have e0 : ((0 : Int) == 0) = true := rfl
  replace bx0 := bx0.next ((Below.refl _ _).drew)
  replace bx1 := bx1.next ((Below.refl _ _).drew)
  replace hp0 := hp0.next ((Below.refl _ _).drew)
  replace hp1 := hp1.next ((Below.refl _ _).drew)
  replace hx1 := hx1.next ((Below.refl _ _).drew)
  replace bx3 := bx3.next ((Below.refl _ _).drew)
  replace hx5 := hx5.next ((Below.refl _ _).drew)
  replace hx6 := hx6.next ((Below.refl _ _).drew)
  replace bx7 := bx7.next ((Below.refl _ _).drew)
  replace bx8 := bx8.next ((Below.refl _ _).drew)
  replace hB := hB.drew
  have hE := Ext.refl (W11.drew)
  refine region_go 157904 (by kernel_rfl) ?_
  obtain ⟨d0, d1, d2, d3, d4, d5, d6, d7, d8⟩ := nine_cells bx7
  refine wpAny_go 157904 0 [0, 1, 2, 3] 15 16 (by kernel_rfl) (by kernel_rfl) (fun _ _ _ _ _ h => h) (by kernel_rfl) (by rfl) (by rfl) (by kernel_rfl) ?_
  simp only [List.map_cons, List.map_nil, List.getD_cons_succ, List.getD_cons_zero]
  go_wp2_with fail
  change wpAnyM _ _ _ _ _ _ _ _ _ _
  clear d0 d1 d2 d3 d4 d5 d6 d7 d8
  obtain ⟨d0, d1, d2, d3, d4, d5, d6, d7, d8⟩ := nine_cells bx1
  refine wpAny_reads 157904 15 [5] 47 15 (by kernel_rfl) (by kernel_rfl) (fun _ _ _ _ _ h => h) (by kernel_rfl) (by rfl) (by rfl) (by kernel_rfl) ?_
  simp only [List.map_cons, List.map_nil, List.getD_cons_succ, List.getD_cons_zero]
  go_wp2_with fail
  change _ → wpAnyM _ _ _ _ _ _ _ _ _ _; intro _
  clear d0 d1 d2 d3 d4 d5 d6 d7 d8
  refine wpAny_oneM 4 63 (by kernel_rfl) (by kernel_rfl) (of_decide_eq_true (by kernel_rfl)) (by rfl) ?_
  simp only [List.getD_cons_succ, List.getD_cons_zero]
  go_wp2_with fail
  refine (cref hx5 HS1.out).mono ?_
  rintro e w5 ⟨⟨QA, Qk, QB, Ql, rfl, hq1⟩, hb⟩
  replace bx0 := bx0.next hb
  replace bx1 := bx1.next hb
  replace hp0 := hp0.next hb
  replace hp1 := hp1.next hb
  replace hx1 := hx1.next hb
  replace bx3 := bx3.next hb
  replace hx5 := hx5.next hb
  replace hx6 := hx6.next hb
  replace bx7 := bx7.next hb
  replace bx8 := bx8.next hb
  replace hE := hE.trans (Ext.below hb (Nat.le_refl _))
  replace hB := hB.trans (hb.mono hB.size)
  clear hb
  go_wp2_with fail
  refine ⟨fun _ => hE, ?_⟩
  refine wpAny_oneM 6 127 (by kernel_rfl) (by kernel_rfl) (of_decide_eq_true (by kernel_rfl)) (by rfl) ?_
  simp only [List.getD_cons_succ, List.getD_cons_zero]
  go_wp2_with fail
  refine (cref hp1 HS1.out).mono ?_
  rintro e w6 ⟨⟨Q2A, Q2k, Q2B, Q2l, rfl, hq2⟩, hb⟩
  replace bx0 := bx0.next hb
  replace bx1 := bx1.next hb
  replace hp0 := hp0.next hb
  replace hp1 := hp1.next hb
  replace hx1 := hx1.next hb
  replace bx3 := bx3.next hb
  replace hx5 := hx5.next hb
  replace hx6 := hx6.next hb
  replace bx7 := bx7.next hb
  replace bx8 := bx8.next hb
  replace hq1 := hq1.next hb
  replace hE := hE.trans (Ext.below hb (Nat.le_refl _))
  replace hB := hB.trans (hb.mono hB.size)
  clear hb
  go_wp2_with fail
  refine ⟨fun _ => hE, ?_⟩
  refine wpAny_oneM 7 255 (by kernel_rfl) (by kernel_rfl) (of_decide_eq_true (by kernel_rfl)) (by rfl) ?_
  simp only [List.getD_cons_succ, List.getD_cons_zero]
  go_wp2_with fail
  refine (crsame hq1 hq2 (decide_eq_true rfl)).mono ?_
  rintro e w7 ⟨rfl, hb⟩
  replace bx0 := bx0.next hb
  replace bx1 := bx1.next hb
  replace hp0 := hp0.next hb
  replace hp1 := hp1.next hb
  replace hx1 := hx1.next hb
  replace bx3 := bx3.next hb
  replace hx5 := hx5.next hb
  replace hx6 := hx6.next hb
  replace bx7 := bx7.next hb
  replace bx8 := bx8.next hb
  replace hq1 := hq1.next hb
  replace hq2 := hq2.next hb
  replace hE := hE.trans (Ext.below hb (Nat.le_refl _))
  replace hB := hB.trans (hb.mono hB.size)
  clear hb
  go_wp2_with fail
  refine ⟨fun _ => hE, ?_⟩
  obtain ⟨d0, d1, d2⟩ := three_cells bx8
  refine wpAny_go 157904 255 [8, 9, 10] 2047 9 (by kernel_rfl) (by kernel_rfl) (fun _ _ _ _ _ h => h) (by kernel_rfl) (by rfl) (by rfl) (by kernel_rfl) ?_
  simp only [List.map_cons, List.map_nil, List.getD_cons_succ, List.getD_cons_zero]
  go_wp2_with fail
  change wpAnyM _ _ _ _ _ _ _ _ _ _
  clear d0 d1 d2
  obtain ⟨d0, d1, d2⟩ := three_cells bx0
  refine wpAnyM_rebase hE _ _ _ _ ?_
  clear hE
  have hE := Ext.refl w7
  refine wpAny_reads 157904 2047 [12] 6143 8 (by kernel_rfl) (by kernel_rfl) (fun _ _ _ _ _ h => h) (by kernel_rfl) (by rfl) (by rfl) (by kernel_rfl) ?_
  simp only [List.map_cons, List.map_nil, List.getD_cons_succ, List.getD_cons_zero]
  go_wp2_with fail
  change _ → wpAnyM _ _ _ _ _ _ _ _ _ _; intro _
  clear d0 d1 d2
  refine wpAny_oneM 11 8191 (by kernel_rfl) (by kernel_rfl) (of_decide_eq_true (by kernel_rfl)) (by rfl) ?_
  simp only [List.getD_cons_succ, List.getD_cons_zero]
  go_wp2_with fail
  refine (claref hx6 HS0.out).mono ?_
  rintro e w8 ⟨⟨R2A, R2c, rfl, hr2⟩, hb⟩
  replace bx0 := bx0.next hb
  replace bx1 := bx1.next hb
  replace hp0 := hp0.next hb
  replace hp1 := hp1.next hb
  replace hx1 := hx1.next hb
  replace bx3 := bx3.next hb
  replace hx5 := hx5.next hb
  replace hx6 := hx6.next hb
  replace bx7 := bx7.next hb
  replace bx8 := bx8.next hb
  replace hq1 := hq1.next hb
  replace hq2 := hq2.next hb
  replace hE := hE.trans (Ext.below hb (Nat.le_refl _))
  replace hB := hB.trans (hb.mono hB.size)
  clear hb
  go_wp2_with fail
  refine ⟨fun _ => hE, ?_⟩
  refine wpAny_oneM 13 16383 (by kernel_rfl) (by kernel_rfl) (of_decide_eq_true (by kernel_rfl)) (by rfl) ?_
  simp only [List.getD_cons_succ, List.getD_cons_zero]
  go_wp2_with fail
  refine (claref hp0 HS0.out).mono ?_
  rintro e w9 ⟨⟨R3A, R3c, rfl, hr3⟩, hb⟩
  replace bx0 := bx0.next hb
  replace bx1 := bx1.next hb
  replace hp0 := hp0.next hb
  replace hp1 := hp1.next hb
  replace hx1 := hx1.next hb
  replace bx3 := bx3.next hb
  replace hx5 := hx5.next hb
  replace hx6 := hx6.next hb
  replace bx7 := bx7.next hb
  replace bx8 := bx8.next hb
  replace hq1 := hq1.next hb
  replace hq2 := hq2.next hb
  replace hr2 := hr2.next hb
  replace hE := hE.trans (Ext.below hb (Nat.le_refl _))
  replace hB := hB.trans (hb.mono hB.size)
  clear hb
  go_wp2_with fail
  refine ⟨fun _ => hE, ?_⟩
  refine wpAny_oneM 14 32767 (by kernel_rfl) (by kernel_rfl) (of_decide_eq_true (by kernel_rfl)) (by rfl) ?_
  simp only [List.getD_cons_succ, List.getD_cons_zero]
  go_wp2_with fail
  refine (crasame hr2 hr3 (decide_eq_true rfl)).mono ?_
  rintro e w10 ⟨rfl, hb⟩
  replace bx0 := bx0.next hb
  replace bx1 := bx1.next hb
  replace hp0 := hp0.next hb
  replace hp1 := hp1.next hb
  replace hx1 := hx1.next hb
  replace bx3 := bx3.next hb
  replace hx5 := hx5.next hb
  replace hx6 := hx6.next hb
  replace bx7 := bx7.next hb
  replace bx8 := bx8.next hb
  replace hq1 := hq1.next hb
  replace hq2 := hq2.next hb
  replace hr2 := hr2.next hb
  replace hr3 := hr3.next hb
  replace hE := hE.trans (Ext.below hb (Nat.le_refl _))
  replace hB := hB.trans (hb.mono hB.size)
  clear hb
  go_wp2_with fail
  refine ⟨fun _ => hE, ?_⟩
  refine wpAny_go 157904 32767 [15, 16] 131071 3 (by kernel_rfl) (by kernel_rfl) (fun _ _ _ _ _ h => h) (by kernel_rfl) (by rfl) (by rfl) (by kernel_rfl) ?_
  simp only [List.map_cons, List.map_nil, List.getD_cons_succ, List.getD_cons_zero]
  go_wp2_with fail
  change wpAnyM _ _ _ _ _ _ _ _ _ _
  refine wpAny_oneM 17 262143 (by kernel_rfl) (by kernel_rfl) (of_decide_eq_true (by kernel_rfl)) (by rfl) ?_
  simp only [List.getD_cons_succ, List.getD_cons_zero]
  go_wp2_with fail
  refine (fixed8_any _).mono ?_
  rintro e w11 ⟨rfl, hb⟩
  replace bx0 := bx0.next hb
  replace bx1 := bx1.next hb
  replace hp0 := hp0.next hb
  replace hp1 := hp1.next hb
  replace hx1 := hx1.next hb
  replace bx3 := bx3.next hb
  replace hx5 := hx5.next hb
  replace hx6 := hx6.next hb
  replace bx7 := bx7.next hb
  replace bx8 := bx8.next hb
  replace hq1 := hq1.next hb
  replace hq2 := hq2.next hb
  replace hr2 := hr2.next hb
  replace hr3 := hr3.next hb
  replace hE := hE.trans (Ext.below hb (Nat.le_refl _))
  replace hB := hB.trans (hb.mono hB.size)
  clear hb
  go_wp2_with fail
  refine ⟨fun _ => hE, ?_⟩
  refine wpAny_go 157904 262143 [18, 19] 1048575 0 (by kernel_rfl) (by kernel_rfl) (fun _ _ _ _ _ h => h) (by kernel_rfl) (by rfl) (by rfl) (by kernel_rfl) ?_
  simp only [List.map_cons, List.map_nil, List.getD_cons_succ, List.getD_cons_zero]
  go_wp2_with fail
  change wpAnyM _ _ _ _ _ _ _ _ _ _
  refine wpAny_endM (by kernel_rfl) (by kernel_rfl) ?_
  go_wp2_with fail
  go_ret
  exact ⟨rfl, hB⟩

set_option maxRecDepth 100000 in
set_option maxHeartbeats 8000000 in
theorem walk_first (v0 : Value) (a0 : La) (v1 : Value) (f1 : Fr) (w : World) (h0 : LaIs false w 0 w.heap.size v0 a0) (h1 : FrIs false w 0 w.heap.size v1 f1) (hq : La.right (La.cut a0) = true) (hr : Fr.right (Fr.cut f1) = true) (hm : La.right (La.more (La.cut a0) (Fr.cut f1)) = true) (hfi : (La.cut a0).fifo = true) (hln : (La.cut a0).l.length = 0) :
    Calls Try.prog 7 #[v0, v1] w fun x w' => x = .returned (.bool true) ∧ Below w.heap.size w w' := by
  have HRF := Lib.hid hr; clear hr
  have HRM := Lib.hid hm; clear hm
  have HFF := Lib.hid hfi; clear hfi
  have HLN := Lib.hid hln; clear hln
  have HQ0 := Lib.hid hq; clear hq
  obtain ⟨a0A, a0c, rfl, _⟩ := id h0
  obtain ⟨P0, hP0⟩ : ∃ P, La.cut a0 = P := ⟨_, rfl⟩
  have hs0 : P0.Small := hP0 ▸ La.cut_small _
  have HP0 := Lib.hid hP0; have HS0 := Lib.hid hs0; clear hP0 hs0
  obtain ⟨a1A, a1B, a1k, a1l, rfl, _, _⟩ := id h1
  obtain ⟨P1, hP1⟩ : ∃ P, Fr.cut f1 = P := ⟨_, rfl⟩
  have hs1 : P1.Small := hP1 ▸ Fr.cut_small _
  have HP1 := Lib.hid hP1; have HS1 := Lib.hid hs1; clear hP1 hs1
  go_enter Try.func7, Try.ntmps7
  try simp only [List.append_eq, List.cons_append, List.nil_append]
  go_wp2_with fail
  refine name_call fun W0 hW0 => ?_
  have bx0 : Box W0 (w.heap.size) #[.bool a0.fifo, .int .i64 a0.cap, .slice a0A a0.l.length a0c] 25 := hW0 ▸ ((Box.new' #[.bool a0.fifo, .int .i64 a0.cap, .slice a0A a0.l.length a0c] 25 (by simp)).alloc _)
  have bx1 : Box W0 (w.heap.size + 1) #[.int .i64 f1.kind, .int .i64 f1.epoch, .int .i64 f1.seq, .int .i64 f1.letter, .slice a1A f1.pieces.length a1k, .int .i64 f1.init, .int .i64 f1.num, .int .i64 f1.count, .slice a1B f1.path.length a1l] 37 := hW0 ▸ (Box.new' #[.int .i64 f1.kind, .int .i64 f1.epoch, .int .i64 f1.seq, .int .i64 f1.letter, .slice a1A f1.pieces.length a1k, .int .i64 f1.init, .int .i64 f1.num, .int .i64 f1.count, .slice a1B f1.path.length a1l] 37 (by simp))
  have hB : Below w.heap.size w W0 := hW0 ▸ (((Below.refl _ _).alloc (by first | (simp; done) | (simp; omega)) _).alloc (by first | (simp; done) | (simp; omega)) _)
  have hlo : w.heap.size + 1 + 1 ≤ W0.heap.size := hW0 ▸ (by simp)
  clear hW0
  refine (clacut (h0.next hB) HP0.out).mono ?_
  rintro e w1 ⟨⟨P0A, P0c, rfl, hp0⟩, hb⟩
  replace bx0 := bx0.next hb
  replace bx1 := bx1.next hb
  replace hp0 := hp0.widen hlo (Nat.le_refl _)
  replace hB := hB.trans (hb.mono hB.size)
  replace hlo := Nat.le_trans hlo hb.size
  clear hb
  obtain ⟨d0, d1, d2⟩ := three_cells bx0
  have df0 := three_free bx0 0
  have df1 := three_free bx0 1
  have df2 := three_free bx0 2
  have hl0 := bx0.lt
  obtain ⟨g0, g1, g2, g3, g4, g5, g6, g7, g8⟩ := nine_cells bx1
  have hl1 := bx1.lt
  go_wp2_with fail
  clear d0 d1 d2 df0 df1 df2 hl0
  clear g0 g1 g2 g3 g4 g5 g6 g7 g8
  clear hl1
  refine name_call fun W hW => ?_
  have qx0 : Box W w.heap.size #[.bool P0.fifo, .int .i64 P0.cap, .slice P0A P0.l.length P0c] 25 := by rw [← hW]; exact blk_set (blk_set (blk_set bx0 0 _) 1 _) 2 _
  have qbx1 : Box W (w.heap.size + 1) #[.int .i64 f1.kind, .int .i64 f1.epoch, .int .i64 f1.seq, .int .i64 f1.letter, .slice a1A f1.pieces.length a1k, .int .i64 f1.init, .int .i64 f1.num, .int .i64 f1.count, .slice a1B f1.path.length a1l] 37 := by rw [← hW]; exact (three_other (by omega)).trans bx1
  have qp0 : LaIs false W (w.heap.size + 1 + 1) W.heap.size (.agg #[.bool P0.fifo, .int .i64 P0.cap, .slice P0A P0.l.length P0c]) P0 := by rw [← hW]; exact (hp0.keep fun b h1 _ => three_other (by omega)).widen (Nat.le_refl _) (Nat.le_of_eq three_size.symm)
  have qB : Below w.heap.size w W := by rw [← hW]; exact ((hB.setCell (by simp) _).setCell (by simp) _).setCell (by simp) _
  have qlo : w.heap.size + 1 + 1 ≤ W.heap.size := by rw [← hW]; exact Nat.le_trans hlo (Nat.le_of_eq three_size.symm)
  clear bx0 bx1 hp0 hB hlo hW
  have bx0 := qx0; clear qx0
  have bx1 := qbx1; clear qbx1
  have hp0 := qp0; have hB := qB; have hlo := qlo; clear qp0 qB qlo
  obtain ⟨W1, rfl⟩ : ∃ x : World, x = W := ⟨_, rfl⟩
  refine (ccut (f := P1) (h1.keep (fun b _ q => hB.block b q) |>.widen (Nat.le_refl _) hB.size) HP1.out).mono ?_
  rintro e w2 ⟨⟨P1A, P1k, P1B, P1l, rfl, hp1⟩, hb⟩
  replace bx0 := bx0.next hb
  replace bx1 := bx1.next hb
  replace hp0 := hp0.next hb
  replace hp1 := hp1.widen hlo (Nat.le_refl _)
  replace hB := hB.trans (hb.mono hB.size)
  replace hlo := Nat.le_trans hlo hb.size
  clear hb
  obtain ⟨g0, g1, g2, g3, g4, g5, g6, g7, g8⟩ := nine_cells bx1
  obtain ⟨c0, c1, c2, c3, c4, c5, c6, c7, c8⟩ := nine_free bx1
  have hl1 := bx1.lt
  obtain ⟨d0, d1, d2⟩ := three_cells bx0
  have hl0 := bx0.lt
  go_wp2_with fail
  clear g0 g1 g2 g3 g4 g5 g6 g7 g8
  clear c0 c1 c2 c3 c4 c5 c6 c7 c8
  clear hl1 d0 d1 d2 hl0
  refine name_call fun W hW => ?_
  have qbx0 : Box W w.heap.size #[.bool P0.fifo, .int .i64 P0.cap, .slice P0A P0.l.length P0c] 25 := by rw [← hW]; exact (nine_far (by omega)).trans bx0
  have qbx1 : Box W (w.heap.size + 1) #[.int .i64 P1.kind, .int .i64 P1.epoch, .int .i64 P1.seq, .int .i64 P1.letter, .slice P1A P1.pieces.length P1k, .int .i64 P1.init, .int .i64 P1.num, .int .i64 P1.count, .slice P1B P1.path.length P1l] 37 := by rw [← hW]; exact nine_box bx1
  have qp0 : LaIs false W (w.heap.size + 1 + 1) W.heap.size (.agg #[.bool P0.fifo, .int .i64 P0.cap, .slice P0A P0.l.length P0c]) P0 := by rw [← hW]; exact (hp0.keep fun b h1 _ => Go.Proofs.Ytkkbblpofhenpaa.nine_far (by omega)).widen (Nat.le_refl _) (Nat.le_of_eq nine_size.symm)
  have qp1 : FrIs false W (w.heap.size + 1 + 1) W.heap.size (.agg #[.int .i64 P1.kind, .int .i64 P1.epoch, .int .i64 P1.seq, .int .i64 P1.letter, .slice P1A P1.pieces.length P1k, .int .i64 P1.init, .int .i64 P1.num, .int .i64 P1.count, .slice P1B P1.path.length P1l]) P1 := by rw [← hW]; exact (hp1.soft.keep fun b h1 _ => Go.Proofs.Ytkkbblpofhenpaa.nine_far (by omega)).widen (Nat.le_refl _) (Nat.le_of_eq nine_size.symm)
  have qB : Below w.heap.size w W := by rw [← hW]; exact nine_below hB (by omega)
  have qlo : w.heap.size + 1 + 1 ≤ W.heap.size := by rw [← hW]; exact Nat.le_trans hlo (Nat.le_of_eq nine_size.symm)
  clear bx0 bx1 hp0 hp1 hB hlo hW
  have bx0 := qbx0; clear qbx0
  have bx1 := qbx1; clear qbx1
  have hp0 := qp0; have hp1 := qp1; have hB := qB; have hlo := qlo; clear qp0 qp1 qB qlo
  clear hlo
  obtain ⟨W0, rfl⟩ : ∃ x : World, x = W := ⟨_, rfl⟩
  replace hp0 := hp0.zero_
  replace hp1 := hp1.zero_
  have HQ := Lib.hid (HP0.out ▸ HQ0.out)
  obtain ⟨d0, d1, d2⟩ := three_cells bx0
  have hl0 := bx0.lt
  refine (claref hp0 HS0.out).mono ?_
  rintro e w1 ⟨⟨RA, Rc, rfl, hr⟩, hb⟩
  replace bx0 := bx0.next hb
  replace bx1 := bx1.next hb
  replace hp0 := hp0.next hb
  replace hp1 := hp1.next hb
  replace hB := hB.trans (hb.mono hB.size)
  clear hb
  go_wp2_with fail
  refine (craright hr HQ.out).mono ?_
  rintro e w2 ⟨rfl, hb⟩
  replace bx0 := bx0.next hb
  replace bx1 := bx1.next hb
  replace hp0 := hp0.next hb
  replace hp1 := hp1.next hb
  replace hr := hr.next hb
  replace hB := hB.trans (hb.mono hB.size)
  clear hb
  clear hr
  clear d0 d1 d2
  clear hl0
  obtain ⟨d0, d1, d2⟩ := three_cells bx0
  have hl0 := bx0.lt
  have HR := Lib.hid (show Fr.right P1 = _ from HP1.out ▸ HRF.out)
  have HM := Lib.hid (show La.right (La.more P0 P1) = _ from HP0.out ▸ HP1.out ▸ HRM.out)
  obtain ⟨d0, d1, d2⟩ := three_cells bx0
  have hl0 := bx0.lt
  obtain ⟨g0, g1, g2, g3, g4, g5, g6, g7, g8⟩ := nine_cells bx1
  have hl1 := bx1.lt
  go_wp2_with fail
  clear d0 d1 d2
  clear hl0
  clear g0 g1 g2 g3 g4 g5 g6 g7 g8
  clear hl1
  have hpk := La.push_ok HR.out HM.out
  have hbs := La.more_small HS0.out HS1.out HM.out
  obtain ⟨B1, hb1⟩ : ∃ b, La.more P0 P1 = b := ⟨_, rfl⟩
  have hln1 : B1.l.length = P0.l.length + 1 := hb1 ▸ La.more_len _ _
  rw [hb1] at hpk hbs
  have HPK := Lib.hid hpk; have HB1 := Lib.hid hb1; have HBS := Lib.hid hbs; have HLN1 := Lib.hid hln1; clear hpk hb1 hbs hln1
  refine (cpushI (lo := 0) B1 0 (Nat.zero_le _) hp0 hp1 HS0.out.len' HPK.out.1 HPK.out.2).mono ?_
  rintro e w3 ⟨⟨B1A, B1c, rfl, hx1⟩, hb⟩
  replace bx0 := bx0.next hb
  replace bx1 := bx1.next hb
  replace hp0 := hp0.next hb
  replace hp1 := hp1.next hb
  replace hB := hB.trans (hb.mono hB.size)
  clear hb
  rw [HLN1.out] at hx1 ⊢
  have hlast := (La.last_ok (a := P0) (f := P1) (fun _ => show P0.l.length = 0 from HP0.out ▸ HLN.out))
  rw [HB1.out] at hlast
  have HLAST := Lib.hid hlast; clear hlast
  have hi63 : wrap64 (P0.l.length : Int) = (P0.l.length : Int) := by have := HS0.out.len; unfold wrap64; omega
  go_upto_region 8 with fail
  refine name_wp fun W8 hW8 => ?_
  have bx3 : Box W8 (w3.heap.size) #[.bool B1.fifo, .int .i64 B1.cap, .slice B1A (P0.l.length + 1) B1c] 25 := hW8 ▸ (Box.new' #[.bool B1.fifo, .int .i64 B1.cap, .slice B1A (P0.l.length + 1) B1c] 25 (by simp))
  have hb : Below w3.heap.size w3 W8 := hW8 ▸ ((Below.refl _ _).alloc (by first | (simp; done) | (simp; omega)) _)
  clear hW8
  replace bx0 := bx0.next hb
  replace bx1 := bx1.next hb
  replace hp0 := hp0.next hb
  replace hp1 := hp1.next hb
  replace hx1 := hx1.next hb
  replace hB := hB.trans (hb.mono hB.size)
  clear hb
  obtain ⟨d0, d1, d2⟩ := three_cells bx3
  have hl0 := bx3.lt
  go_wp2_with fail
  clear d0 d1 d2
  clear hl0
  refine (ctakeI (lo := 0) P1 P0 0 (P0.l.length : Int) (Nat.zero_le _) hx1 HBS.out.len HLAST.out.2.1 HLAST.out.1 HLAST.out.2.2).mono ?_
  rintro e w4 ⟨⟨F2A, F2k, F2B, F2l, B2A, B2c, rfl, hx5, hx6⟩, hb⟩
  replace bx0 := bx0.next hb
  replace bx1 := bx1.next hb
  replace hp0 := hp0.next hb
  replace hp1 := hp1.next hb
  replace hx1 := hx1.next hb
  replace bx3 := bx3.next hb
  replace hB := hB.trans (hb.mono hB.size)
  clear hb
  have hfi : P0.fifo = true := HP0.out ▸ HFF.out
  have hgt : ¬ ((P0.l.length : Int) > 0) := by have : P0.l.length = 0 := HP0.out ▸ HLN.out; omega
  obtain ⟨d0, d1, d2⟩ := three_cells bx0
  have hl0 := bx0.lt
  go_upto_region 11 with fail
  clear d0 d1 d2
  clear hl0
  refine name_wp fun W11 hW11 => ?_
  have bx7 : Box W11 (w4.heap.size) #[.int .i64 P1.kind, .int .i64 P1.epoch, .int .i64 P1.seq, .int .i64 P1.letter, .slice F2A P1.pieces.length F2k, .int .i64 P1.init, .int .i64 P1.num, .int .i64 P1.count, .slice F2B P1.path.length F2l] 37 := hW11 ▸ ((Box.new' #[.int .i64 P1.kind, .int .i64 P1.epoch, .int .i64 P1.seq, .int .i64 P1.letter, .slice F2A P1.pieces.length F2k, .int .i64 P1.init, .int .i64 P1.num, .int .i64 P1.count, .slice F2B P1.path.length F2l] 37 (by simp)).alloc _)
  have bx8 : Box W11 (w4.heap.size + 1) #[.bool true, .int .i64 P0.cap, .slice B2A P0.l.length B2c] 25 := hW11 ▸ (Box.new' #[.bool true, .int .i64 P0.cap, .slice B2A P0.l.length B2c] 25 (by simp))
  have hb : Below w4.heap.size w4 W11 := hW11 ▸ (((Below.refl _ _).alloc (by first | (simp; done) | (simp; omega)) _).alloc (by first | (simp; done) | (simp; omega)) _)
  clear hW11
  replace bx0 := bx0.next hb
  replace bx1 := bx1.next hb
  replace hp0 := hp0.next hb
  replace hp1 := hp1.next hb
  replace hx1 := hx1.next hb
  replace bx3 := bx3.next hb
  replace hx5 := hx5.next hb
  replace hx6 := hx6.next hb
  replace hB := hB.trans (hb.mono hB.size)
  clear hb
  rw [hfi] at hx6
  clear hfi hgt
  have e0 : ((0 : Int) == 0) = true := rfl
  replace bx0 := bx0.next ((Below.refl _ _).drew)
  replace bx1 := bx1.next ((Below.refl _ _).drew)
  replace hp0 := hp0.next ((Below.refl _ _).drew)
  replace hp1 := hp1.next ((Below.refl _ _).drew)
  replace hx1 := hx1.next ((Below.refl _ _).drew)
  replace bx3 := bx3.next ((Below.refl _ _).drew)
  replace hx5 := hx5.next ((Below.refl _ _).drew)
  replace hx6 := hx6.next ((Below.refl _ _).drew)
  replace bx7 := bx7.next ((Below.refl _ _).drew)
  replace bx8 := bx8.next ((Below.refl _ _).drew)
  replace hB := hB.drew
  have hE := Ext.refl (W11.drew)
  refine region_go 157904 (by kernel_rfl) ?_
  obtain ⟨d0, d1, d2, d3, d4, d5, d6, d7, d8⟩ := nine_cells bx7
  refine wpAny_go 157904 0 [0, 1, 2, 3] 15 16 (by kernel_rfl) (by kernel_rfl) (fun _ _ _ _ _ h => h) (by kernel_rfl) (by rfl) (by rfl) (by kernel_rfl) ?_
  simp only [List.map_cons, List.map_nil, List.getD_cons_succ, List.getD_cons_zero]
  go_wp2_with fail
  change wpAnyM _ _ _ _ _ _ _ _ _ _
  clear d0 d1 d2 d3 d4 d5 d6 d7 d8
  obtain ⟨d0, d1, d2, d3, d4, d5, d6, d7, d8⟩ := nine_cells bx1
  refine wpAny_reads 157904 15 [5] 47 15 (by kernel_rfl) (by kernel_rfl) (fun _ _ _ _ _ h => h) (by kernel_rfl) (by rfl) (by rfl) (by kernel_rfl) ?_
  simp only [List.map_cons, List.map_nil, List.getD_cons_succ, List.getD_cons_zero]
  go_wp2_with fail
  change _ → wpAnyM _ _ _ _ _ _ _ _ _ _; intro _
  clear d0 d1 d2 d3 d4 d5 d6 d7 d8
  refine wpAny_oneM 4 63 (by kernel_rfl) (by kernel_rfl) (of_decide_eq_true (by kernel_rfl)) (by rfl) ?_
  simp only [List.getD_cons_succ, List.getD_cons_zero]
  go_wp2_with fail
  refine (cref hx5 HS1.out).mono ?_
  rintro e w5 ⟨⟨QA, Qk, QB, Ql, rfl, hq1⟩, hb⟩
  replace bx0 := bx0.next hb
  replace bx1 := bx1.next hb
  replace hp0 := hp0.next hb
  replace hp1 := hp1.next hb
  replace hx1 := hx1.next hb
  replace bx3 := bx3.next hb
  replace hx5 := hx5.next hb
  replace hx6 := hx6.next hb
  replace bx7 := bx7.next hb
  replace bx8 := bx8.next hb
  replace hE := hE.trans (Ext.below hb (Nat.le_refl _))
  replace hB := hB.trans (hb.mono hB.size)
  clear hb
  go_wp2_with fail
  refine ⟨fun _ => hE, ?_⟩
  refine wpAny_oneM 6 127 (by kernel_rfl) (by kernel_rfl) (of_decide_eq_true (by kernel_rfl)) (by rfl) ?_
  simp only [List.getD_cons_succ, List.getD_cons_zero]
  go_wp2_with fail
  refine (cref hp1 HS1.out).mono ?_
  rintro e w6 ⟨⟨Q2A, Q2k, Q2B, Q2l, rfl, hq2⟩, hb⟩
  replace bx0 := bx0.next hb
  replace bx1 := bx1.next hb
  replace hp0 := hp0.next hb
  replace hp1 := hp1.next hb
  replace hx1 := hx1.next hb
  replace bx3 := bx3.next hb
  replace hx5 := hx5.next hb
  replace hx6 := hx6.next hb
  replace bx7 := bx7.next hb
  replace bx8 := bx8.next hb
  replace hq1 := hq1.next hb
  replace hE := hE.trans (Ext.below hb (Nat.le_refl _))
  replace hB := hB.trans (hb.mono hB.size)
  clear hb
  go_wp2_with fail
  refine ⟨fun _ => hE, ?_⟩
  refine wpAny_oneM 7 255 (by kernel_rfl) (by kernel_rfl) (of_decide_eq_true (by kernel_rfl)) (by rfl) ?_
  simp only [List.getD_cons_succ, List.getD_cons_zero]
  go_wp2_with fail
  refine (crsame hq1 hq2 (decide_eq_true rfl)).mono ?_
  rintro e w7 ⟨rfl, hb⟩
  replace bx0 := bx0.next hb
  replace bx1 := bx1.next hb
  replace hp0 := hp0.next hb
  replace hp1 := hp1.next hb
  replace hx1 := hx1.next hb
  replace bx3 := bx3.next hb
  replace hx5 := hx5.next hb
  replace hx6 := hx6.next hb
  replace bx7 := bx7.next hb
  replace bx8 := bx8.next hb
  replace hq1 := hq1.next hb
  replace hq2 := hq2.next hb
  replace hE := hE.trans (Ext.below hb (Nat.le_refl _))
  replace hB := hB.trans (hb.mono hB.size)
  clear hb
  go_wp2_with fail
  refine ⟨fun _ => hE, ?_⟩
  obtain ⟨d0, d1, d2⟩ := three_cells bx8
  refine wpAny_go 157904 255 [8, 9, 10] 2047 9 (by kernel_rfl) (by kernel_rfl) (fun _ _ _ _ _ h => h) (by kernel_rfl) (by rfl) (by rfl) (by kernel_rfl) ?_
  simp only [List.map_cons, List.map_nil, List.getD_cons_succ, List.getD_cons_zero]
  go_wp2_with fail
  change wpAnyM _ _ _ _ _ _ _ _ _ _
  clear d0 d1 d2
  obtain ⟨d0, d1, d2⟩ := three_cells bx0
  refine wpAnyM_rebase hE _ _ _ _ ?_
  clear hE
  have hE := Ext.refl w7
  refine wpAny_reads 157904 2047 [12] 6143 8 (by kernel_rfl) (by kernel_rfl) (fun _ _ _ _ _ h => h) (by kernel_rfl) (by rfl) (by rfl) (by kernel_rfl) ?_
  simp only [List.map_cons, List.map_nil, List.getD_cons_succ, List.getD_cons_zero]
  go_wp2_with fail
  change _ → wpAnyM _ _ _ _ _ _ _ _ _ _; intro _
  clear d0 d1 d2
  refine wpAny_oneM 11 8191 (by kernel_rfl) (by kernel_rfl) (of_decide_eq_true (by kernel_rfl)) (by rfl) ?_
  simp only [List.getD_cons_succ, List.getD_cons_zero]
  go_wp2_with fail
  refine (claref hx6 HS0.out).mono ?_
  rintro e w8 ⟨⟨R2A, R2c, rfl, hr2⟩, hb⟩
  replace bx0 := bx0.next hb
  replace bx1 := bx1.next hb
  replace hp0 := hp0.next hb
  replace hp1 := hp1.next hb
  replace hx1 := hx1.next hb
  replace bx3 := bx3.next hb
  replace hx5 := hx5.next hb
  replace hx6 := hx6.next hb
  replace bx7 := bx7.next hb
  replace bx8 := bx8.next hb
  replace hq1 := hq1.next hb
  replace hq2 := hq2.next hb
  replace hE := hE.trans (Ext.below hb (Nat.le_refl _))
  replace hB := hB.trans (hb.mono hB.size)
  clear hb
  go_wp2_with fail
  refine ⟨fun _ => hE, ?_⟩
  refine wpAny_oneM 13 16383 (by kernel_rfl) (by kernel_rfl) (of_decide_eq_true (by kernel_rfl)) (by rfl) ?_
  simp only [List.getD_cons_succ, List.getD_cons_zero]
  go_wp2_with fail
  refine (claref hp0 HS0.out).mono ?_
  rintro e w9 ⟨⟨R3A, R3c, rfl, hr3⟩, hb⟩
  replace bx0 := bx0.next hb
  replace bx1 := bx1.next hb
  replace hp0 := hp0.next hb
  replace hp1 := hp1.next hb
  replace hx1 := hx1.next hb
  replace bx3 := bx3.next hb
  replace hx5 := hx5.next hb
  replace hx6 := hx6.next hb
  replace bx7 := bx7.next hb
  replace bx8 := bx8.next hb
  replace hq1 := hq1.next hb
  replace hq2 := hq2.next hb
  replace hr2 := hr2.next hb
  replace hE := hE.trans (Ext.below hb (Nat.le_refl _))
  replace hB := hB.trans (hb.mono hB.size)
  clear hb
  go_wp2_with fail
  refine ⟨fun _ => hE, ?_⟩
  refine wpAny_oneM 14 32767 (by kernel_rfl) (by kernel_rfl) (of_decide_eq_true (by kernel_rfl)) (by rfl) ?_
  simp only [List.getD_cons_succ, List.getD_cons_zero]
  go_wp2_with fail
  refine (crasame hr2 hr3 (decide_eq_true rfl)).mono ?_
  rintro e w10 ⟨rfl, hb⟩
  replace bx0 := bx0.next hb
  replace bx1 := bx1.next hb
  replace hp0 := hp0.next hb
  replace hp1 := hp1.next hb
  replace hx1 := hx1.next hb
  replace bx3 := bx3.next hb
  replace hx5 := hx5.next hb
  replace hx6 := hx6.next hb
  replace bx7 := bx7.next hb
  replace bx8 := bx8.next hb
  replace hq1 := hq1.next hb
  replace hq2 := hq2.next hb
  replace hr2 := hr2.next hb
  replace hr3 := hr3.next hb
  replace hE := hE.trans (Ext.below hb (Nat.le_refl _))
  replace hB := hB.trans (hb.mono hB.size)
  clear hb
  go_wp2_with fail
  refine ⟨fun _ => hE, ?_⟩
  refine wpAny_go 157904 32767 [15, 16] 131071 3 (by kernel_rfl) (by kernel_rfl) (fun _ _ _ _ _ h => h) (by kernel_rfl) (by rfl) (by rfl) (by kernel_rfl) ?_
  simp only [List.map_cons, List.map_nil, List.getD_cons_succ, List.getD_cons_zero]
  go_wp2_with fail
  change wpAnyM _ _ _ _ _ _ _ _ _ _
  refine wpAny_oneM 17 262143 (by kernel_rfl) (by kernel_rfl) (of_decide_eq_true (by kernel_rfl)) (by rfl) ?_
  simp only [List.getD_cons_succ, List.getD_cons_zero]
  go_wp2_with fail
  refine (fixed8_any _).mono ?_
  rintro e w11 ⟨rfl, hb⟩
  replace bx0 := bx0.next hb
  replace bx1 := bx1.next hb
  replace hp0 := hp0.next hb
  replace hp1 := hp1.next hb
  replace hx1 := hx1.next hb
  replace bx3 := bx3.next hb
  replace hx5 := hx5.next hb
  replace hx6 := hx6.next hb
  replace bx7 := bx7.next hb
  replace bx8 := bx8.next hb
  replace hq1 := hq1.next hb
  replace hq2 := hq2.next hb
  replace hr2 := hr2.next hb
  replace hr3 := hr3.next hb
  replace hE := hE.trans (Ext.below hb (Nat.le_refl _))
  replace hB := hB.trans (hb.mono hB.size)
  clear hb
  go_wp2_with fail
  refine ⟨fun _ => hE, ?_⟩
  refine wpAny_go 157904 262143 [18, 19] 1048575 0 (by kernel_rfl) (by kernel_rfl) (fun _ _ _ _ _ h => h) (by kernel_rfl) (by rfl) (by rfl) (by kernel_rfl) ?_
  simp only [List.map_cons, List.map_nil, List.getD_cons_succ, List.getD_cons_zero]
  go_wp2_with fail
  change wpAnyM _ _ _ _ _ _ _ _ _ _
  refine wpAny_endM (by kernel_rfl) (by kernel_rfl) ?_
  go_wp2_with fail
  go_ret
  exact ⟨rfl, hB⟩

theorem walk (v0 : Value) (a0 : La) (v1 : Value) (f1 : Fr) (w : World) (h0 : LaIs false w 0 w.heap.size v0 a0) (h1 : FrIs false w 0 w.heap.size v1 f1) :
    Calls Try.prog 7 #[v0, v1] w fun x w' => x = .returned (.bool true) ∧ Below w.heap.size w w' := by
  cases hq : La.right (La.cut a0) with
  | false => exact walk_q v0 a0 v1 f1 w h0 h1 hq
  | true =>
    cases hr : Fr.right (Fr.cut f1) with
    | false => exact walk_form v0 a0 v1 f1 w h0 h1 hq hr
    | true =>
      cases hm : La.right (La.more (La.cut a0) (Fr.cut f1)) with
      | false => exact walk_full v0 a0 v1 f1 w h0 h1 hq hr hm
      | true =>
        cases hfi : (La.cut a0).fifo with
        | false => exact walk_free v0 a0 v1 f1 w h0 h1 hq hr hm hfi
        | true =>
          rcases Nat.eq_zero_or_pos (La.cut a0).l.length with h | h
          · exact walk_first v0 a0 v1 f1 w h0 h1 hq hr hm hfi h
          · exact walk_fifo v0 a0 v1 f1 w h0 h1 hq hr hm hfi h
end Go.Proofs.Ytkkbblpofhenpaa.laneBack
