/- LaneOwn: the walk. -/
import Derived.Test.YtkkbblpofhenpaaS16
namespace Go.Proofs.Ytkkbblpofhenpaa.laneOwn
open Go.RowKit Go.Proofs.Ytkkbblpofhenpaa

set_option maxRecDepth 100000 in
set_option maxHeartbeats 8000000 in
theorem walk_n (v0 : Value) (a0 : La) (v1 : Value) (f1 : Fr) (i : Int) (w : World) (h0 : LaIs false w 0 w.heap.size v0 a0) (h1 : FrIs false w 0 w.heap.size v1 f1) (hq : La.right (La.cut a0) = false) :
    Calls Try.prog 9 #[v0, v1, .int .i64 i] w fun x w' => x = .returned (.bool true) ∧ Below w.heap.size w w' := by
  have HQ0 := Lib.hid hq; clear hq
  obtain ⟨a0A, a0c, rfl, _⟩ := id h0
  obtain ⟨P0, hP0⟩ : ∃ P, La.cut a0 = P := ⟨_, rfl⟩
  have hs0 : P0.Small := hP0 ▸ La.cut_small _
  have HP0 := Lib.hid hP0; have HS0 := Lib.hid hs0; clear hP0 hs0
  obtain ⟨a1A, a1B, a1k, a1l, rfl, _, _⟩ := id h1
  obtain ⟨P1, hP1⟩ : ∃ P, Fr.cut f1 = P := ⟨_, rfl⟩
  have hs1 : P1.Small := hP1 ▸ Fr.cut_small _
  have HP1 := Lib.hid hP1; have HS1 := Lib.hid hs1; clear hP1 hs1
  go_enter Try.func9, Try.ntmps9
  try simp only [List.append_eq, List.cons_append, List.nil_append]
  go_wp2_with fail
  refine name_call fun W0 hW0 => ?_
  have bx0 : Box W0 (w.heap.size) #[.bool a0.fifo, .int .i64 a0.cap, .slice a0A a0.l.length a0c] 25 := hW0 ▸ ((Box.new' #[.bool a0.fifo, .int .i64 a0.cap, .slice a0A a0.l.length a0c] 25 (by simp)).alloc _)
  have bx1 : Box W0 (w.heap.size + 1) #[.int .i64 f1.kind, .int .i64 f1.epoch, .int .i64 f1.seq, .int .i64 f1.letter, .slice a1A f1.pieces.length a1k, .int .i64 f1.init, .int .i64 f1.num, .int .i64 f1.count, .slice a1B f1.path.length a1l] 37 := hW0 ▸ (Box.new' #[.int .i64 f1.kind, .int .i64 f1.epoch, .int .i64 f1.seq, .int .i64 f1.letter, .slice a1A f1.pieces.length a1k, .int .i64 f1.init, .int .i64 f1.num, .int .i64 f1.count, .slice a1B f1.path.length a1l] 37 (by simp))
  have hB : Below w.heap.size w W0 := hW0 ▸ (((Below.refl _ _).alloc (by first | (simp; done) | (simp; omega)) _).alloc (by first | (simp; done) | (simp; omega)) _)
  have hlo : w.heap.size + 1 + 1 ≤ W0.heap.size := hW0 ▸ (by simp)
  clear hW0
  refine (clacut (h0.next hB) HP0.out).mono ?_
  rintro e w1 ⟨⟨P0A, P0c, rfl, hp0⟩, hb⟩
  replace bx0 := bx0.next hb
  replace bx1 := bx1.next hb
  replace hp0 := hp0.widen hlo (Nat.le_refl _)
  replace hB := hB.trans (hb.mono hB.size)
  replace hlo := Nat.le_trans hlo hb.size
  clear hb
  obtain ⟨d0, d1, d2⟩ := three_cells bx0
  have df0 := three_free bx0 0
  have df1 := three_free bx0 1
  have df2 := three_free bx0 2
  have hl0 := bx0.lt
  obtain ⟨g0, g1, g2, g3, g4, g5, g6, g7, g8⟩ := nine_cells bx1
  have hl1 := bx1.lt
  go_wp2_with fail
  clear d0 d1 d2 df0 df1 df2 hl0
  clear g0 g1 g2 g3 g4 g5 g6 g7 g8
  clear hl1
  refine name_call fun W hW => ?_
  have qx0 : Box W w.heap.size #[.bool P0.fifo, .int .i64 P0.cap, .slice P0A P0.l.length P0c] 25 := by rw [← hW]; exact blk_set (blk_set (blk_set bx0 0 _) 1 _) 2 _
  have qbx1 : Box W (w.heap.size + 1) #[.int .i64 f1.kind, .int .i64 f1.epoch, .int .i64 f1.seq, .int .i64 f1.letter, .slice a1A f1.pieces.length a1k, .int .i64 f1.init, .int .i64 f1.num, .int .i64 f1.count, .slice a1B f1.path.length a1l] 37 := by rw [← hW]; exact (three_other (by omega)).trans bx1
  have qp0 : LaIs false W (w.heap.size + 1 + 1) W.heap.size (.agg #[.bool P0.fifo, .int .i64 P0.cap, .slice P0A P0.l.length P0c]) P0 := by rw [← hW]; exact (hp0.keep fun b h1 _ => three_other (by omega)).widen (Nat.le_refl _) (Nat.le_of_eq three_size.symm)
  have qB : Below w.heap.size w W := by rw [← hW]; exact ((hB.setCell (by simp) _).setCell (by simp) _).setCell (by simp) _
  have qlo : w.heap.size + 1 + 1 ≤ W.heap.size := by rw [← hW]; exact Nat.le_trans hlo (Nat.le_of_eq three_size.symm)
  clear bx0 bx1 hp0 hB hlo hW
  have bx0 := qx0; clear qx0
  have bx1 := qbx1; clear qbx1
  have hp0 := qp0; have hB := qB; have hlo := qlo; clear qp0 qB qlo
  obtain ⟨W1, rfl⟩ : ∃ x : World, x = W := ⟨_, rfl⟩
  refine (ccut (f := P1) (h1.keep (fun b _ q => hB.block b q) |>.widen (Nat.le_refl _) hB.size) HP1.out).mono ?_
  rintro e w2 ⟨⟨P1A, P1k, P1B, P1l, rfl, hp1⟩, hb⟩
  replace bx0 := bx0.next hb
  replace bx1 := bx1.next hb
  replace hp0 := hp0.next hb
  replace hp1 := hp1.widen hlo (Nat.le_refl _)
  replace hB := hB.trans (hb.mono hB.size)
  replace hlo := Nat.le_trans hlo hb.size
  clear hb
  obtain ⟨g0, g1, g2, g3, g4, g5, g6, g7, g8⟩ := nine_cells bx1
  obtain ⟨c0, c1, c2, c3, c4, c5, c6, c7, c8⟩ := nine_free bx1
  have hl1 := bx1.lt
  obtain ⟨d0, d1, d2⟩ := three_cells bx0
  have hl0 := bx0.lt
  go_wp2_with fail
  clear g0 g1 g2 g3 g4 g5 g6 g7 g8
  clear c0 c1 c2 c3 c4 c5 c6 c7 c8
  clear hl1 d0 d1 d2 hl0
  refine name_call fun W hW => ?_
  have qbx0 : Box W w.heap.size #[.bool P0.fifo, .int .i64 P0.cap, .slice P0A P0.l.length P0c] 25 := by rw [← hW]; exact (nine_far (by omega)).trans bx0
  have qbx1 : Box W (w.heap.size + 1) #[.int .i64 P1.kind, .int .i64 P1.epoch, .int .i64 P1.seq, .int .i64 P1.letter, .slice P1A P1.pieces.length P1k, .int .i64 P1.init, .int .i64 P1.num, .int .i64 P1.count, .slice P1B P1.path.length P1l] 37 := by rw [← hW]; exact nine_box bx1
  have qp0 : LaIs false W (w.heap.size + 1 + 1) W.heap.size (.agg #[.bool P0.fifo, .int .i64 P0.cap, .slice P0A P0.l.length P0c]) P0 := by rw [← hW]; exact (hp0.keep fun b h1 _ => Go.Proofs.Ytkkbblpofhenpaa.nine_far (by omega)).widen (Nat.le_refl _) (Nat.le_of_eq nine_size.symm)
  have qp1 : FrIs false W (w.heap.size + 1 + 1) W.heap.size (.agg #[.int .i64 P1.kind, .int .i64 P1.epoch, .int .i64 P1.seq, .int .i64 P1.letter, .slice P1A P1.pieces.length P1k, .int .i64 P1.init, .int .i64 P1.num, .int .i64 P1.count, .slice P1B P1.path.length P1l]) P1 := by rw [← hW]; exact (hp1.soft.keep fun b h1 _ => Go.Proofs.Ytkkbblpofhenpaa.nine_far (by omega)).widen (Nat.le_refl _) (Nat.le_of_eq nine_size.symm)
  have qB : Below w.heap.size w W := by rw [← hW]; exact nine_below hB (by omega)
  have qlo : w.heap.size + 1 + 1 ≤ W.heap.size := by rw [← hW]; exact Nat.le_trans hlo (Nat.le_of_eq nine_size.symm)
  clear bx0 bx1 hp0 hp1 hB hlo hW
  have bx0 := qbx0; clear qbx0
  have bx1 := qbx1; clear qbx1
  have hp0 := qp0; have hp1 := qp1; have hB := qB; have hlo := qlo; clear qp0 qp1 qB qlo
  clear hlo
  obtain ⟨W0, rfl⟩ : ∃ x : World, x = W := ⟨_, rfl⟩
  replace hp0 := hp0.zero_
  replace hp1 := hp1.zero_
  have HQ := Lib.hid (HP0.out ▸ HQ0.out)
  obtain ⟨d0, d1, d2⟩ := three_cells bx0
  have hl0 := bx0.lt
  refine (claref hp0 HS0.out).mono ?_
  rintro e w1 ⟨⟨RA, Rc, rfl, hr⟩, hb⟩
  replace bx0 := bx0.next hb
  replace bx1 := bx1.next hb
  replace hp0 := hp0.next hb
  replace hp1 := hp1.next hb
  replace hB := hB.trans (hb.mono hB.size)
  clear hb
  go_wp2_with fail
  refine (craright hr HQ.out).mono ?_
  rintro e w2 ⟨rfl, hb⟩
  replace bx0 := bx0.next hb
  replace bx1 := bx1.next hb
  replace hp0 := hp0.next hb
  replace hp1 := hp1.next hb
  replace hr := hr.next hb
  replace hB := hB.trans (hb.mono hB.size)
  clear hb
  clear hr
  clear d0 d1 d2
  clear hl0
  obtain ⟨d0, d1, d2⟩ := three_cells bx0
  have hl0 := bx0.lt
  go_wp2_with fail
  clear d0 d1 d2
  clear hl0
  refine (claright hp0 HS0.out.len HQ.out).mono ?_
  rintro e w3 ⟨rfl, hb⟩
  replace bx0 := bx0.next hb
  replace bx1 := bx1.next hb
  replace hp0 := hp0.next hb
  replace hp1 := hp1.next hb
  replace hB := hB.trans (hb.mono hB.size)
  clear hb
  go_wp2_with fail
  refine (fixed8_any _).mono ?_
  rintro e w4 ⟨rfl, hb⟩
  replace bx0 := bx0.next hb
  replace bx1 := bx1.next hb
  replace hp0 := hp0.next hb
  replace hp1 := hp1.next hb
  replace hB := hB.trans (hb.mono hB.size)
  clear hb
  go_wp2_with fail
  go_ret
  exact ⟨rfl, hB⟩

set_option maxRecDepth 100000 in
set_option maxHeartbeats 8000000 in
theorem walk_y (v0 : Value) (a0 : La) (v1 : Value) (f1 : Fr) (i : Int) (w : World) (h0 : LaIs false w 0 w.heap.size v0 a0) (h1 : FrIs false w 0 w.heap.size v1 f1) (hq : La.right (La.cut a0) = true) :
    Calls Try.prog 9 #[v0, v1, .int .i64 i] w fun x w' => x = .returned (.bool true) ∧ Below w.heap.size w w' := by
  have HQ0 := Lib.hid hq; clear hq
  obtain ⟨a0A, a0c, rfl, _⟩ := id h0
  obtain ⟨P0, hP0⟩ : ∃ P, La.cut a0 = P := ⟨_, rfl⟩
  have hs0 : P0.Small := hP0 ▸ La.cut_small _
  have HP0 := Lib.hid hP0; have HS0 := Lib.hid hs0; clear hP0 hs0
  obtain ⟨a1A, a1B, a1k, a1l, rfl, _, _⟩ := id h1
  obtain ⟨P1, hP1⟩ : ∃ P, Fr.cut f1 = P := ⟨_, rfl⟩
  have hs1 : P1.Small := hP1 ▸ Fr.cut_small _
  have HP1 := Lib.hid hP1; have HS1 := Lib.hid hs1; clear hP1 hs1
  go_enter Try.func9, Try.ntmps9
  try simp only [List.append_eq, List.cons_append, List.nil_append]
  go_wp2_with fail
  refine name_call fun W0 hW0 => ?_
  have bx0 : Box W0 (w.heap.size) #[.bool a0.fifo, .int .i64 a0.cap, .slice a0A a0.l.length a0c] 25 := hW0 ▸ ((Box.new' #[.bool a0.fifo, .int .i64 a0.cap, .slice a0A a0.l.length a0c] 25 (by simp)).alloc _)
  have bx1 : Box W0 (w.heap.size + 1) #[.int .i64 f1.kind, .int .i64 f1.epoch, .int .i64 f1.seq, .int .i64 f1.letter, .slice a1A f1.pieces.length a1k, .int .i64 f1.init, .int .i64 f1.num, .int .i64 f1.count, .slice a1B f1.path.length a1l] 37 := hW0 ▸ (Box.new' #[.int .i64 f1.kind, .int .i64 f1.epoch, .int .i64 f1.seq, .int .i64 f1.letter, .slice a1A f1.pieces.length a1k, .int .i64 f1.init, .int .i64 f1.num, .int .i64 f1.count, .slice a1B f1.path.length a1l] 37 (by simp))
  have hB : Below w.heap.size w W0 := hW0 ▸ (((Below.refl _ _).alloc (by first | (simp; done) | (simp; omega)) _).alloc (by first | (simp; done) | (simp; omega)) _)
  have hlo : w.heap.size + 1 + 1 ≤ W0.heap.size := hW0 ▸ (by simp)
  clear hW0
  refine (clacut (h0.next hB) HP0.out).mono ?_
  rintro e w1 ⟨⟨P0A, P0c, rfl, hp0⟩, hb⟩
  replace bx0 := bx0.next hb
  replace bx1 := bx1.next hb
  replace hp0 := hp0.widen hlo (Nat.le_refl _)
  replace hB := hB.trans (hb.mono hB.size)
  replace hlo := Nat.le_trans hlo hb.size
  clear hb
  obtain ⟨d0, d1, d2⟩ := three_cells bx0
  have df0 := three_free bx0 0
  have df1 := three_free bx0 1
  have df2 := three_free bx0 2
  have hl0 := bx0.lt
  obtain ⟨g0, g1, g2, g3, g4, g5, g6, g7, g8⟩ := nine_cells bx1
  have hl1 := bx1.lt
  go_wp2_with fail
  clear d0 d1 d2 df0 df1 df2 hl0
  clear g0 g1 g2 g3 g4 g5 g6 g7 g8
  clear hl1
  refine name_call fun W hW => ?_
  have qx0 : Box W w.heap.size #[.bool P0.fifo, .int .i64 P0.cap, .slice P0A P0.l.length P0c] 25 := by rw [← hW]; exact blk_set (blk_set (blk_set bx0 0 _) 1 _) 2 _
  have qbx1 : Box W (w.heap.size + 1) #[.int .i64 f1.kind, .int .i64 f1.epoch, .int .i64 f1.seq, .int .i64 f1.letter, .slice a1A f1.pieces.length a1k, .int .i64 f1.init, .int .i64 f1.num, .int .i64 f1.count, .slice a1B f1.path.length a1l] 37 := by rw [← hW]; exact (three_other (by omega)).trans bx1
  have qp0 : LaIs false W (w.heap.size + 1 + 1) W.heap.size (.agg #[.bool P0.fifo, .int .i64 P0.cap, .slice P0A P0.l.length P0c]) P0 := by rw [← hW]; exact (hp0.keep fun b h1 _ => three_other (by omega)).widen (Nat.le_refl _) (Nat.le_of_eq three_size.symm)
  have qB : Below w.heap.size w W := by rw [← hW]; exact ((hB.setCell (by simp) _).setCell (by simp) _).setCell (by simp) _
  have qlo : w.heap.size + 1 + 1 ≤ W.heap.size := by rw [← hW]; exact Nat.le_trans hlo (Nat.le_of_eq three_size.symm)
  clear bx0 bx1 hp0 hB hlo hW
  have bx0 := qx0; clear qx0
  have bx1 := qbx1; clear qbx1
  have hp0 := qp0; have hB := qB; have hlo := qlo; clear qp0 qB qlo
  obtain ⟨W1, rfl⟩ : ∃ x : World, x = W := ⟨_, rfl⟩
  refine (ccut (f := P1) (h1.keep (fun b _ q => hB.block b q) |>.widen (Nat.le_refl _) hB.size) HP1.out).mono ?_
  rintro e w2 ⟨⟨P1A, P1k, P1B, P1l, rfl, hp1⟩, hb⟩
  replace bx0 := bx0.next hb
  replace bx1 := bx1.next hb
  replace hp0 := hp0.next hb
  replace hp1 := hp1.widen hlo (Nat.le_refl _)
  replace hB := hB.trans (hb.mono hB.size)
  replace hlo := Nat.le_trans hlo hb.size
  clear hb
  obtain ⟨g0, g1, g2, g3, g4, g5, g6, g7, g8⟩ := nine_cells bx1
  obtain ⟨c0, c1, c2, c3, c4, c5, c6, c7, c8⟩ := nine_free bx1
  have hl1 := bx1.lt
  obtain ⟨d0, d1, d2⟩ := three_cells bx0
  have hl0 := bx0.lt
  go_wp2_with fail
  clear g0 g1 g2 g3 g4 g5 g6 g7 g8
  clear c0 c1 c2 c3 c4 c5 c6 c7 c8
  clear hl1 d0 d1 d2 hl0
  refine name_call fun W hW => ?_
  have qbx0 : Box W w.heap.size #[.bool P0.fifo, .int .i64 P0.cap, .slice P0A P0.l.length P0c] 25 := by rw [← hW]; exact (nine_far (by omega)).trans bx0
  have qbx1 : Box W (w.heap.size + 1) #[.int .i64 P1.kind, .int .i64 P1.epoch, .int .i64 P1.seq, .int .i64 P1.letter, .slice P1A P1.pieces.length P1k, .int .i64 P1.init, .int .i64 P1.num, .int .i64 P1.count, .slice P1B P1.path.length P1l] 37 := by rw [← hW]; exact nine_box bx1
  have qp0 : LaIs false W (w.heap.size + 1 + 1) W.heap.size (.agg #[.bool P0.fifo, .int .i64 P0.cap, .slice P0A P0.l.length P0c]) P0 := by rw [← hW]; exact (hp0.keep fun b h1 _ => Go.Proofs.Ytkkbblpofhenpaa.nine_far (by omega)).widen (Nat.le_refl _) (Nat.le_of_eq nine_size.symm)
  have qp1 : FrIs false W (w.heap.size + 1 + 1) W.heap.size (.agg #[.int .i64 P1.kind, .int .i64 P1.epoch, .int .i64 P1.seq, .int .i64 P1.letter, .slice P1A P1.pieces.length P1k, .int .i64 P1.init, .int .i64 P1.num, .int .i64 P1.count, .slice P1B P1.path.length P1l]) P1 := by rw [← hW]; exact (hp1.soft.keep fun b h1 _ => Go.Proofs.Ytkkbblpofhenpaa.nine_far (by omega)).widen (Nat.le_refl _) (Nat.le_of_eq nine_size.symm)
  have qB : Below w.heap.size w W := by rw [← hW]; exact nine_below hB (by omega)
  have qlo : w.heap.size + 1 + 1 ≤ W.heap.size := by rw [← hW]; exact Nat.le_trans hlo (Nat.le_of_eq nine_size.symm)
  clear bx0 bx1 hp0 hp1 hB hlo hW
  have bx0 := qbx0; clear qbx0
  have bx1 := qbx1; clear qbx1
  have hp0 := qp0; have hp1 := qp1; have hB := qB; have hlo := qlo; clear qp0 qp1 qB qlo
  clear hlo
  obtain ⟨W0, rfl⟩ : ∃ x : World, x = W := ⟨_, rfl⟩
  replace hp0 := hp0.zero_
  replace hp1 := hp1.zero_
  have HQ := Lib.hid (HP0.out ▸ HQ0.out)
  obtain ⟨d0, d1, d2⟩ := three_cells bx0
  have hl0 := bx0.lt
  refine (claref hp0 HS0.out).mono ?_
  rintro e w1 ⟨⟨RA, Rc, rfl, hr⟩, hb⟩
  replace bx0 := bx0.next hb
  replace bx1 := bx1.next hb
  replace hp0 := hp0.next hb
  replace hp1 := hp1.next hb
  replace hB := hB.trans (hb.mono hB.size)
  clear hb
  go_wp2_with fail
  refine (craright hr HQ.out).mono ?_
  rintro e w2 ⟨rfl, hb⟩
  replace bx0 := bx0.next hb
  replace bx1 := bx1.next hb
  replace hp0 := hp0.next hb
  replace hp1 := hp1.next hb
  replace hr := hr.next hb
  replace hB := hB.trans (hb.mono hB.size)
  clear hb
  clear hr
  clear d0 d1 d2
  clear hl0
  obtain ⟨d0, d1, d2⟩ := three_cells bx0
  have hl0 := bx0.lt
  go_wp2_with fail
  clear d0 d1 d2
  clear hl0
  have hcc : La.cut P0 = P0 := by rw [← HP0.out]; exact La.cut_cut _
  have HCC := Lib.hid hcc; clear hcc
  refine (clacut hp0 HCC.out).mono ?_
  rintro e w3 ⟨⟨KA, Kc, rfl, hk⟩, hb⟩
  replace bx0 := bx0.next hb
  replace bx1 := bx1.next hb
  replace hp0 := hp0.next hb
  replace hp1 := hp1.next hb
  replace hB := hB.trans (hb.mono hB.size)
  clear hb
  replace hk := hk.zero_
  go_wp2_with fail
  refine (claref hk HS0.out).mono ?_
  rintro e w4 ⟨⟨WA, Wc, rfl, hw⟩, hb⟩
  replace bx0 := bx0.next hb
  replace bx1 := bx1.next hb
  replace hp0 := hp0.next hb
  replace hp1 := hp1.next hb
  replace hk := hk.next hb
  replace hB := hB.trans (hb.mono hB.size)
  clear hb
  clear hk
  obtain ⟨d0, d1, d2⟩ := three_cells bx0
  have hl0 := bx0.lt
  obtain ⟨g0, g1, g2, g3, g4, g5, g6, g7, g8⟩ := nine_cells bx1
  have hl1 := bx1.lt
  go_wp2_with fail
  clear d0 d1 d2
  clear hl0
  clear g0 g1 g2 g3 g4 g5 g6 g7 g8
  clear hl1
  refine name_call fun W6 hW6 => ?_
  have bx7 : Box W6 (w4.heap.size) #[.bool P0.fifo, .int .i64 P0.cap, .slice WA P0.l.length Wc] 28 := hW6 ▸ (Box.new' #[.bool P0.fifo, .int .i64 P0.cap, .slice WA P0.l.length Wc] 28 (by simp))
  have hb : Below w4.heap.size w4 W6 := hW6 ▸ ((Below.refl _ _).alloc (by first | (simp; done) | (simp; omega)) _)
  clear hW6
  replace bx0 := bx0.next hb
  replace bx1 := bx1.next hb
  replace hp0 := hp0.next hb
  replace hp1 := hp1.next hb
  replace hw := hw.next hb
  replace hB := hB.trans (hb.mono hB.size)
  clear hb
  have HX0 := Lib.hid bx0; have HX7 := Lib.hid bx7; have HP := Lib.hid hp0; have HW := Lib.hid hw; have HB6 := Lib.hid hB; clear hB bx1 bx7 hw
  have hV := Below.refl W6.heap.size W6
  obtain ⟨B1, hb1⟩ : ∃ b, La.push P0 P1 = b := ⟨_, rfl⟩
  obtain ⟨E1, he1⟩ : ∃ n, La.pushE P0 P1 = n := ⟨_, rfl⟩
  have HB1 := Lib.hid hb1; have HE1 := Lib.hid he1; clear hb1 he1
  obtain ⟨F2, hf2⟩ : ∃ b, La.takeF P0 i = b := ⟨_, rfl⟩
  obtain ⟨B2, hb2⟩ : ∃ b, La.take P0 i = b := ⟨_, rfl⟩
  obtain ⟨E2, he2⟩ : ∃ n, La.takeE P0 i = n := ⟨_, rfl⟩
  have HF2 := Lib.hid hf2; have HB2 := Lib.hid hb2; have HE2 := Lib.hid he2; clear hf2 hb2 he2
  refine (cpush (rng 0 W6.heap.size) B1 E1 (fun _ q => q.2) hp0.on hp1.on HS0.out.len' HB1.out HE1.out).mono ?_
  rintro e w5 ⟨⟨XA, Xc, rfl, hu⟩, hb⟩
  replace bx0 := bx0.next hb
  replace hp0 := hp0.next hb
  replace hV := hV.trans (hb.mono hV.size)
  clear hb
  clear hp1
  obtain ⟨ox, hox, hrx⟩ := hu.row
  obtain ⟨nx, hnx⟩ : ∃ n, B1.l.length = n := ⟨_, rfl⟩
  have hnxb : nx ≤ 1000 := hnx ▸ (HB1.out ▸ La.push_small HS0.out HS1.out : B1.Small).1
  rw [hnx] at hrx ⊢
  clear hu hnx
  have HOX := Lib.hid hox; clear hox
  have hox2 : ∀ g, ox = some g → W6.heap.size ≤ g ∧ g < w5.heap.size := HOX.out
  clear HOX
  have HOX := Lib.hid hox2; clear hox2
  obtain ⟨d0, d1, d2⟩ := three_cells bx0
  have hl0 := bx0.lt
  go_wp2_with fail
  clear d0 d1 d2
  clear hl0
  refine name_call fun W7 hW7 => ?_
  have bx8 : Box W7 (w5.heap.size) #[.bool B1.fifo, .int .i64 B1.cap, .slice XA nx Xc] 25 := hW7 ▸ (Box.new' #[.bool B1.fifo, .int .i64 B1.cap, .slice XA nx Xc] 25 (by simp))
  have hb : Below w5.heap.size w5 W7 := hW7 ▸ ((Below.refl _ _).alloc (by first | (simp; done) | (simp; omega)) _)
  clear hW7
  replace bx0 := bx0.next hb
  replace hp0 := hp0.next hb
  replace hrx := hrx.next hb
  replace hV := hV.trans (hb.mono hV.size)
  clear hb
  have HG8 := Lib.hid (show ∀ g, ox = some g → g < w5.heap.size from fun g q => (HOX.out g q).2)
  have HS67 := Lib.hid hV.size
  have hb7 : w5.heap.size < W7.heap.size := bx8.lt
  refine (ctake (rng 0 W7.heap.size) F2 B2 E2 i (fun _ q => q.2) hp0.on HS0.out.len HF2.out HB2.out HE2.out).mono ?_
  rintro e w6 ⟨⟨F2A, F2k, F2B, F2l, YA, Yc, rfl, _, hu⟩, hb⟩
  replace bx0 := bx0.next hb
  replace hp0 := hp0.next hb
  replace hrx := hrx.next hb
  replace bx8 := bx8.next hb
  replace hV := hV.trans (hb.mono hV.size)
  clear hb
  obtain ⟨oy, hoy, hry⟩ := hu.row
  obtain ⟨ny, hny⟩ : ∃ n, B2.l.length = n := ⟨_, rfl⟩
  have hnyb : ny ≤ 1000 := hny ▸ (HB2.out ▸ La.take_small HS0.out : B2.Small).1
  rw [hny] at hry ⊢
  clear hu hny
  have HOY := Lib.hid hoy; clear hoy
  have HS78 := Lib.hid bx8.lt
  have hoy2 : ∀ g, oy = some g → W7.heap.size ≤ g ∧ g < w6.heap.size := HOY.out
  clear HOY
  have HOY := Lib.hid hoy2; clear hoy2
  go_upto_region 8 with fail
  refine name_wp fun W8 hW8 => ?_
  have _p : Box W8 (w6.heap.size) #[.int .i64 F2.kind, .int .i64 F2.epoch, .int .i64 F2.seq, .int .i64 F2.letter, .slice F2A F2.pieces.length F2k, .int .i64 F2.init, .int .i64 F2.num, .int .i64 F2.count, .slice F2B F2.path.length F2l] 37 := hW8 ▸ ((Box.new' #[.int .i64 F2.kind, .int .i64 F2.epoch, .int .i64 F2.seq, .int .i64 F2.letter, .slice F2A F2.pieces.length F2k, .int .i64 F2.init, .int .i64 F2.num, .int .i64 F2.count, .slice F2B F2.path.length F2l] 37 (by simp)).alloc _)
  have bx11 : Box W8 (w6.heap.size + 1) #[.bool B2.fifo, .int .i64 B2.cap, .slice YA ny Yc] 25 := hW8 ▸ (Box.new' #[.bool B2.fifo, .int .i64 B2.cap, .slice YA ny Yc] 25 (by simp))
  have hb : Below w6.heap.size w6 W8 := hW8 ▸ (((Below.refl _ _).alloc (by first | (simp; done) | (simp; omega)) _).alloc (by first | (simp; done) | (simp; omega)) _)
  clear hW8
  replace bx0 := bx0.next hb
  replace hp0 := hp0.next hb
  replace hrx := hrx.next hb
  replace bx8 := bx8.next hb
  replace hry := hry.next hb
  replace hV := hV.trans (hb.mono hV.size)
  clear hb
  clear _p
  have hd8 : w6.heap.size < W8.heap.size := Nat.lt_trans (Nat.lt_succ_self _) bx11.lt
  have HBX8 := Lib.hid bx8; have HBX11 := Lib.hid bx11; have HRX := Lib.hid hrx; have HRY := Lib.hid hry; have HV8 := Lib.hid hV; have HD8 := Lib.hid hd8; have HB7 := Lib.hid hb7; clear bx0 hp0 bx8 bx11 hrx hry hV hd8 hb7
  have HR1 := HRX; have Hbx8 := HBX8
  have HNE1 := Lib.hid (show some w5.heap.size ≠ ox from fun e => by have := HG8.out _ e.symm; omega)
  go_wp2_with fail
  go_loopg [13] nx (fun m iv wr => ∃ j : Nat, iv = .int .i64 (j : Int) ∧ j ≤ nx ∧ m = nx - j ∧ W8.grownBy wr ox ∧ Row9 wr ox XA nx)
  case atStart => exact ⟨0, rfl, by omega, by omega, World.grownBy.refl _ _, HR1.out⟩
  case round =>
    obtain ⟨j, rfl, hj, hm, hG, hR⟩ := hrel
    have HM := Lib.hid hm; clear hm
    have bxl : Box wr (w5.heap.size) #[.bool B1.fifo, .int .i64 B1.cap, .slice XA nx Xc] 25 := (hG.block _ Hbx8.out.lt HNE1.out).trans Hbx8.out
    obtain ⟨d0, d1, d2⟩ := three_cells bxl
    have hl0 := bxl.lt
    by_cases hlt : j < nx
    ·
      obtain ⟨g, cur, hA, ho, hrow, hsz⟩ := hR (by omega)
      have hgl := lt_of_block hrow
      obtain ⟨v0, e0⟩ := cell_in hrow (i := j * 9) (by omega)
      obtain ⟨v1, e1⟩ := cell_in hrow (i := j * 9 + 1) (by omega)
      obtain ⟨v2, e2⟩ := cell_in hrow (i := j * 9 + 2) (by omega)
      obtain ⟨v3, e3⟩ := cell_in hrow (i := j * 9 + 3) (by omega)
      obtain ⟨v4, e4⟩ := cell_in hrow (i := j * 9 + 4) (by omega)
      obtain ⟨v5, e5⟩ := cell_in hrow (i := j * 9 + 5) (by omega)
      obtain ⟨v6, e6⟩ := cell_in hrow (i := j * 9 + 6) (by omega)
      obtain ⟨v7, e7⟩ := cell_in hrow (i := j * 9 + 7) (by omega)
      obtain ⟨v8, e8⟩ := cell_in hrow (i := j * 9 + 8) (by omega)
      have f0 : wr.frozen? ⟨g, j * 9, none⟩ = false := by simp [World.frozen?, hrow]
      have f1 : wr.frozen? ⟨g, j * 9 + 1, none⟩ = false := by simp [World.frozen?, hrow]
      have f2 : wr.frozen? ⟨g, j * 9 + 2, none⟩ = false := by simp [World.frozen?, hrow]
      have f3 : wr.frozen? ⟨g, j * 9 + 3, none⟩ = false := by simp [World.frozen?, hrow]
      have f4 : wr.frozen? ⟨g, j * 9 + 4, none⟩ = false := by simp [World.frozen?, hrow]
      have f5 : wr.frozen? ⟨g, j * 9 + 5, none⟩ = false := by simp [World.frozen?, hrow]
      have f6 : wr.frozen? ⟨g, j * 9 + 6, none⟩ = false := by simp [World.frozen?, hrow]
      have f7 : wr.frozen? ⟨g, j * 9 + 7, none⟩ = false := by simp [World.frozen?, hrow]
      have f8 : wr.frozen? ⟨g, j * 9 + 8, none⟩ = false := by simp [World.frozen?, hrow]
      have HROW := Lib.hid hrow; have HSZ := Lib.hid hsz; have HO := Lib.hid ho; have HG := Lib.hid hG; clear hrow hsz ho hG hR bxl
      have HA := Lib.hid hA
      subst hA
      go_wp2_with fail
      go_roundg (nx - (j + 1))
      case rel =>
        have hs := Row9.step (o := j * 9) (a0 := .int .i64 99) (a1 := .int .i64 0) (a2 := .int .i64 0) (a3 := .int .i64 0) (a4 := .slice none 0 0) (a5 := .int .i64 0) (a6 := .int .i64 0) (a7 := .int .i64 0) (a8 := .slice none 0 0) (HO.out ▸ HG.out) HROW.out HSZ.out
        rw [← HO.out] at hs
        exact ⟨j + 1, by simp, by omega, rfl, hs.1, hs.2⟩
      case measure => have := HM.out; omega
    ·
      clear hR HM bxl
      have HGR := Lib.hid hG; clear hG
      obtain ⟨W9, rfl⟩ : ∃ x : World, x = wr := ⟨_, rfl⟩
      have Hbx11 : Hid (Box W9 (w6.heap.size + 1) #[.bool B2.fifo, .int .i64 B2.cap, .slice YA ny Yc] 25) := Lib.hid ((HGR.out.block _ HBX11.out.lt (fun e => by have h1 := HG8.out _ e.symm; have h2 := HB7.out; have h3 := HS78.out; omega)).trans HBX11.out)
      have HR2 := Lib.hid (HRY.out.grown HGR.out (fun g e1 e2 => by have h1 := (HOY.out g e1).1; have h2 := HG8.out g e2; have h3 := HB7.out; omega))
      have HNE2 := Lib.hid (show some (w6.heap.size + 1) ≠ oy from fun e => by have := (HOY.out _ e.symm).2; omega)
      clear HR1 Hbx8 HNE1
      go_wp2_with fail
      clear d0 d1 d2
      clear hl0 hlt hj
      go_loopg [14] ny (fun m iv wr => ∃ j : Nat, iv = .int .i64 (j : Int) ∧ j ≤ ny ∧ m = ny - j ∧ W9.grownBy wr oy ∧ Row9 wr oy YA ny)
      case atStart => exact ⟨0, rfl, by omega, by omega, World.grownBy.refl _ _, HR2.out⟩
      case round =>
        obtain ⟨j, rfl, hj, hm, hG, hR⟩ := hrel
        have HM := Lib.hid hm; clear hm
        have bxl : Box wr (w6.heap.size + 1) #[.bool B2.fifo, .int .i64 B2.cap, .slice YA ny Yc] 25 := (hG.block _ Hbx11.out.lt HNE2.out).trans Hbx11.out
        obtain ⟨d0, d1, d2⟩ := three_cells bxl
        have hl0 := bxl.lt
        by_cases hlt : j < ny
        ·
          obtain ⟨g, cur, hA, ho, hrow, hsz⟩ := hR (by omega)
          have hgl := lt_of_block hrow
          obtain ⟨v0, e0⟩ := cell_in hrow (i := j * 9) (by omega)
          obtain ⟨v1, e1⟩ := cell_in hrow (i := j * 9 + 1) (by omega)
          obtain ⟨v2, e2⟩ := cell_in hrow (i := j * 9 + 2) (by omega)
          obtain ⟨v3, e3⟩ := cell_in hrow (i := j * 9 + 3) (by omega)
          obtain ⟨v4, e4⟩ := cell_in hrow (i := j * 9 + 4) (by omega)
          obtain ⟨v5, e5⟩ := cell_in hrow (i := j * 9 + 5) (by omega)
          obtain ⟨v6, e6⟩ := cell_in hrow (i := j * 9 + 6) (by omega)
          obtain ⟨v7, e7⟩ := cell_in hrow (i := j * 9 + 7) (by omega)
          obtain ⟨v8, e8⟩ := cell_in hrow (i := j * 9 + 8) (by omega)
          have f0 : wr.frozen? ⟨g, j * 9, none⟩ = false := by simp [World.frozen?, hrow]
          have f1 : wr.frozen? ⟨g, j * 9 + 1, none⟩ = false := by simp [World.frozen?, hrow]
          have f2 : wr.frozen? ⟨g, j * 9 + 2, none⟩ = false := by simp [World.frozen?, hrow]
          have f3 : wr.frozen? ⟨g, j * 9 + 3, none⟩ = false := by simp [World.frozen?, hrow]
          have f4 : wr.frozen? ⟨g, j * 9 + 4, none⟩ = false := by simp [World.frozen?, hrow]
          have f5 : wr.frozen? ⟨g, j * 9 + 5, none⟩ = false := by simp [World.frozen?, hrow]
          have f6 : wr.frozen? ⟨g, j * 9 + 6, none⟩ = false := by simp [World.frozen?, hrow]
          have f7 : wr.frozen? ⟨g, j * 9 + 7, none⟩ = false := by simp [World.frozen?, hrow]
          have f8 : wr.frozen? ⟨g, j * 9 + 8, none⟩ = false := by simp [World.frozen?, hrow]
          have HROW := Lib.hid hrow; have HSZ := Lib.hid hsz; have HO := Lib.hid ho; have HG := Lib.hid hG; clear hrow hsz ho hG hR bxl
          have HA := Lib.hid hA
          subst hA
          go_wp2_with fail
          go_roundg (ny - (j + 1))
          case rel =>
            have hs := Row9.step (o := j * 9) (a0 := .int .i64 99) (a1 := .int .i64 0) (a2 := .int .i64 0) (a3 := .int .i64 0) (a4 := .slice none 0 0) (a5 := .int .i64 0) (a6 := .int .i64 0) (a7 := .int .i64 0) (a8 := .slice none 0 0) (HO.out ▸ HG.out) HROW.out HSZ.out
            rw [← HO.out] at hs
            exact ⟨j + 1, by simp, by omega, rfl, hs.1, hs.2⟩
          case measure => have := HM.out; omega
        ·
          clear hR HM bxl
          have HGR2 := Lib.hid hG; clear hG
          obtain ⟨W10, rfl⟩ : ∃ x : World, x = wr := ⟨_, rfl⟩
          have hV8 : Below W6.heap.size W6 W8 := HV8.out
          have hV9 : Below W6.heap.size W8 W9 := grown_trans_below HGR.out (fun g e => (HOX.out g e).1) hV8.size
          have hV10 : Below W6.heap.size W9 W10 := grown_trans_below HGR2.out (fun g e => Nat.le_trans HS67.out (HOY.out g e).1) (Nat.le_trans hV8.size hV9.size)
          have hV := (hV8.trans hV9).trans hV10
          have hB := HB6.out.trans (hV.mono HB6.out.size)
          have bx0 := HX0.out.next hV; have bx7 := HX7.out.next hV; have hp0 := HP.out.next hV; have hw := HW.out.next hV
          clear hV8 hV9 hV10 hV HR2 Hbx11 HNE2
          go_upto_region 16 with fail
          clear d0 d1 d2
          clear hl0 hlt hj
          replace bx0 := bx0.next ((Below.refl _ _).drew)
          replace bx7 := bx7.next ((Below.refl _ _).drew)
          replace hp0 := hp0.next ((Below.refl _ _).drew)
          replace hw := hw.next ((Below.refl _ _).drew)
          replace hB := hB.drew
          have hE := Ext.refl (W10.drew)
          refine region_go 42 (by kernel_rfl) ?_
          obtain ⟨d0, d1, d2⟩ := three_cells bx0
          refine wpAny_go 42 0 [0] 1 7 (by kernel_rfl) (by kernel_rfl) (fun _ _ _ _ _ h => h) (by kernel_rfl) (by rfl) (by rfl) (by kernel_rfl) ?_
          simp only [List.map_cons, List.map_nil, List.getD_cons_zero]
          go_wp2_with fail
          change wpAnyM _ _ _ _ _ _ _ _ _ _
          clear d0 d1 d2
          obtain ⟨g0, g1, g2⟩ := three_cells bx7
          refine wpAny_reads 42 1 [2] 5 6 (by kernel_rfl) (by kernel_rfl) (fun _ _ _ _ _ h => h) (by kernel_rfl) (by rfl) (by rfl) (by kernel_rfl) ?_
          simp only [List.map_cons, List.map_nil, List.getD_cons_succ, List.getD_cons_zero]
          go_wp2_with fail
          change _ → wpAnyM _ _ _ _ _ _ _ _ _ _; intro _
          clear g0 g1 g2
          refine wpAny_oneM 1 7 (by kernel_rfl) (by kernel_rfl) (of_decide_eq_true (by kernel_rfl)) (by rfl) ?_
          simp only [List.getD_cons_succ, List.getD_cons_zero]
          go_wp2_with fail
          refine (claref hp0 HS0.out).mono ?_
          rintro e w7 ⟨⟨VA, Vc, rfl, hv⟩, hb⟩
          replace bx0 := bx0.next hb
          replace bx7 := bx7.next hb
          replace hp0 := hp0.next hb
          replace hw := hw.next hb
          replace hE := hE.trans (Ext.below hb (Nat.le_refl _))
          replace hB := hB.trans (hb.mono hB.size)
          clear hb
          go_wp2_with fail
          refine ⟨fun _ => hE, ?_⟩
          refine wpAny_oneM 3 15 (by kernel_rfl) (by kernel_rfl) (of_decide_eq_true (by kernel_rfl)) (by rfl) ?_
          simp only [List.getD_cons_succ, List.getD_cons_zero]
          go_wp2_with fail
          refine (crasame hv hw (decide_eq_true rfl)).mono ?_
          rintro e w8 ⟨rfl, hb⟩
          replace bx0 := bx0.next hb
          replace bx7 := bx7.next hb
          replace hp0 := hp0.next hb
          replace hw := hw.next hb
          replace hv := hv.next hb
          replace hE := hE.trans (Ext.below hb (Nat.le_refl _))
          replace hB := hB.trans (hb.mono hB.size)
          clear hb
          go_wp2_with fail
          refine ⟨fun _ => hE, ?_⟩
          refine wpAny_go 42 15 [4] 31 3 (by kernel_rfl) (by kernel_rfl) (fun _ _ _ _ _ h => h) (by kernel_rfl) (by rfl) (by rfl) (by kernel_rfl) ?_
          simp only [List.map_cons, List.map_nil, List.getD_cons_succ, List.getD_cons_zero]
          go_wp2_with fail
          change wpAnyM _ _ _ _ _ _ _ _ _ _
          refine wpAny_oneM 5 63 (by kernel_rfl) (by kernel_rfl) (of_decide_eq_true (by kernel_rfl)) (by rfl) ?_
          simp only [List.getD_cons_succ, List.getD_cons_zero]
          go_wp2_with fail
          refine (fixed8_any _).mono ?_
          rintro e w9 ⟨rfl, hb⟩
          replace bx0 := bx0.next hb
          replace bx7 := bx7.next hb
          replace hp0 := hp0.next hb
          replace hw := hw.next hb
          replace hv := hv.next hb
          replace hE := hE.trans (Ext.below hb (Nat.le_refl _))
          replace hB := hB.trans (hb.mono hB.size)
          clear hb
          go_wp2_with fail
          refine ⟨fun _ => hE, ?_⟩
          refine wpAny_go 42 63 [6, 7] 255 0 (by kernel_rfl) (by kernel_rfl) (fun _ _ _ _ _ h => h) (by kernel_rfl) (by rfl) (by rfl) (by kernel_rfl) ?_
          simp only [List.map_cons, List.map_nil, List.getD_cons_succ, List.getD_cons_zero]
          go_wp2_with fail
          change wpAnyM _ _ _ _ _ _ _ _ _ _
          refine wpAny_endM (by kernel_rfl) (by kernel_rfl) ?_
          go_wp2_with fail
          go_ret
          exact ⟨rfl, hB⟩

theorem walk (v0 : Value) (a0 : La) (v1 : Value) (f1 : Fr) (i : Int) (_ : (Lit.int .i64 i).wf = true) (w : World) (h0 : LaIs false w 0 w.heap.size v0 a0) (h1 : FrIs false w 0 w.heap.size v1 f1) :
    Calls Try.prog 9 #[v0, v1, .int .i64 i] w fun x w' => x = .returned (.bool true) ∧ Below w.heap.size w w' := by
  cases hq : La.right (La.cut a0) with
  | false => exact walk_n v0 a0 v1 f1 i w h0 h1 hq
  | true => exact walk_y v0 a0 v1 f1 i w h0 h1 hq
end Go.Proofs.Ytkkbblpofhenpaa.laneOwn
