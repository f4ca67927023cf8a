/- FrameTells: the walk. -/
import Derived.Test.YtdfgnmdofjhnkaaG21
namespace Go.Proofs.Ytdfgnmdofjhnkaa.frameTells
open Go.RowKit Go.Proofs.Ytdfgnmdofjhnkaa

theorem dec_len (l : List UInt8) : (Fr.dec l).pieces.length ≤ 1000000 := by
  rcases Fr.dec_or l with h | h
  · have := Fr.right_len h.1; omega
  · rw [h.1]; simp [Fr.zero]

set_option maxRecDepth 100000 in
set_option maxHeartbeats 8000000 in
theorem walk (v0 : Value) (f0 : Fr) (v1 : Value) (f1 : Fr) (a2 : ByteArray) (w : World) (h0 : FrIs false w 0 w.heap.size v0 f0) (h1 : FrIs false w 0 w.heap.size v1 f1) :
    Calls Try.prog 9 #[v0, v1, .string a2] w fun x w' => x = .returned (.bool true) ∧ Below w.heap.size w w' := by
  have hx := str_cut a2 300 (min (a2.size : Int) 300).toNat (by omega)
  obtain ⟨s, hse⟩ : ∃ s, a2.extract 0 (min (a2.size : Int) 300).toNat = s := ⟨_, rfl⟩
  rw [hse] at hx
  obtain ⟨a0A, a0B, a0k, a0l, rfl, _, _⟩ := id h0
  obtain ⟨P0, hP0⟩ : ∃ P, Fr.cut f0 = P := ⟨_, rfl⟩
  have hs0 : P0.Small := hP0 ▸ Fr.cut_small _
  have HP0 := Lib.hid hP0; have HS0 := Lib.hid hs0; clear hP0 hs0
  obtain ⟨a1A, a1B, a1k, a1l, rfl, _, _⟩ := id h1
  obtain ⟨P1, hP1⟩ : ∃ P, Fr.cut f1 = P := ⟨_, rfl⟩
  have hs1 : P1.Small := hP1 ▸ Fr.cut_small _
  have HP1 := Lib.hid hP1; have HS1 := Lib.hid hs1; clear hP1 hs1
  go_enter Try.func9, Try.ntmps9
  try simp only [List.append_eq, List.cons_append, List.nil_append]
  go_wp2_with fail
  refine name_call fun W0 hW0 => ?_
  have bx0 : Box W0 (w.heap.size) #[.int .i64 f0.kind, .int .i64 f0.epoch, .int .i64 f0.seq, .int .i64 f0.letter, .slice a0A f0.pieces.length a0k, .int .i64 f0.init, .int .i64 f0.num, .int .i64 f0.count, .slice a0B f0.path.length a0l] 58 := hW0 ▸ ((Box.new' #[.int .i64 f0.kind, .int .i64 f0.epoch, .int .i64 f0.seq, .int .i64 f0.letter, .slice a0A f0.pieces.length a0k, .int .i64 f0.init, .int .i64 f0.num, .int .i64 f0.count, .slice a0B f0.path.length a0l] 58 (by simp)).alloc _)
  have bx1 : Box W0 (w.heap.size + 1) #[.int .i64 f1.kind, .int .i64 f1.epoch, .int .i64 f1.seq, .int .i64 f1.letter, .slice a1A f1.pieces.length a1k, .int .i64 f1.init, .int .i64 f1.num, .int .i64 f1.count, .slice a1B f1.path.length a1l] 58 := hW0 ▸ (Box.new' #[.int .i64 f1.kind, .int .i64 f1.epoch, .int .i64 f1.seq, .int .i64 f1.letter, .slice a1A f1.pieces.length a1k, .int .i64 f1.init, .int .i64 f1.num, .int .i64 f1.count, .slice a1B f1.path.length a1l] 58 (by simp))
  have hB : Below w.heap.size w W0 := hW0 ▸ (((Below.refl _ _).alloc (by first | (simp; done) | (simp; omega)) _).alloc (by first | (simp; done) | (simp; omega)) _)
  have hlo : w.heap.size + 1 + 1 ≤ W0.heap.size := hW0 ▸ (by simp)
  clear hW0
  refine (ccut (f := P0) ((h0.keep fun b _ q => hB.block b q).widen (Nat.le_refl _) hB.size) HP0.out).mono ?_
  rintro e v0 ⟨⟨P0A, P0k, P0B, P0l, rfl, hp0⟩, hb⟩
  replace bx0 := bx0.next hb
  replace bx1 := bx1.next hb
  replace hp0 := hp0.widen (lo' := w.heap.size + 1 + 1) hlo (Nat.le_refl _)
  replace hB := hB.trans (hb.mono hB.size)
  replace hlo := Nat.le_trans hlo hb.size
  clear hb
  obtain ⟨c0, c1, c2, c3, c4, c5, c6, c7, c8⟩ := nine_cells bx0
  obtain ⟨f0, f1, f2, f3, f4, f5, f6, f7, f8⟩ := nine_free bx0
  obtain ⟨d0, d1, d2, d3, d4, d5, d6, d7, d8⟩ := nine_cells bx1
  go_wp2_with fail
  clear c0 c1 c2 c3 c4 c5 c6 c7 c8
  clear f0 f1 f2 f3 f4 f5 f6 f7 f8
  clear d0 d1 d2 d3 d4 d5 d6 d7 d8
  refine name_call fun W hW => ?_
  have qx0 : Box W (w.heap.size) #[.int .i64 P0.kind, .int .i64 P0.epoch, .int .i64 P0.seq, .int .i64 P0.letter, .slice P0A P0.pieces.length P0k, .int .i64 P0.init, .int .i64 P0.num, .int .i64 P0.count, .slice P0B P0.path.length P0l] 58 := by rw [← hW]; exact nine_box bx0
  have qx1 : Box W (w.heap.size + 1) #[.int .i64 f1.kind, .int .i64 f1.epoch, .int .i64 f1.seq, .int .i64 f1.letter, .slice a1A f1.pieces.length a1k, .int .i64 f1.init, .int .i64 f1.num, .int .i64 f1.count, .slice a1B f1.path.length a1l] 58 := by rw [← hW]; exact bx1.nine_far (by omega)
  have qp0 : FrIs false W (w.heap.size + 1 + 1) W.heap.size (.agg #[.int .i64 P0.kind, .int .i64 P0.epoch, .int .i64 P0.seq, .int .i64 P0.letter, .slice P0A P0.pieces.length P0k, .int .i64 P0.init, .int .i64 P0.num, .int .i64 P0.count, .slice P0B P0.path.length P0l]) P0 := by rw [← hW]; exact hp0.nine_far (by omega)
  have qB : Below w.heap.size w W := by rw [← hW]; exact nine_below hB (by omega)
  have qlo : w.heap.size + 1 + 1 ≤ W.heap.size := by rw [← hW]; exact Nat.le_trans hlo (Nat.le_of_eq nine_size.symm)
  clear bx0 bx1 hp0 hB hlo hW
  have bx0 := qx0
  clear qx0
  have bx1 := qx1
  clear qx1
  have hp0 := qp0
  clear qp0
  have hB := qB
  have hlo := qlo
  clear qB qlo
  obtain ⟨V0, rfl⟩ : ∃ x : World, x = W := ⟨_, rfl⟩
  refine (ccut (f := P1) ((h1.keep fun b _ q => hB.block b q).widen (Nat.le_refl _) hB.size) HP1.out).mono ?_
  rintro e v1 ⟨⟨P1A, P1k, P1B, P1l, rfl, hp1⟩, hb⟩
  replace bx0 := bx0.next hb
  replace bx1 := bx1.next hb
  replace hp0 := hp0.next hb
  replace hp1 := hp1.widen (lo' := w.heap.size + 1 + 1) hlo (Nat.le_refl _)
  replace hB := hB.trans (hb.mono hB.size)
  replace hlo := Nat.le_trans hlo hb.size
  clear hb
  obtain ⟨c0, c1, c2, c3, c4, c5, c6, c7, c8⟩ := nine_cells bx1
  obtain ⟨f0, f1, f2, f3, f4, f5, f6, f7, f8⟩ := nine_free bx1
  obtain ⟨d0, d1, d2, d3, d4, d5, d6, d7, d8⟩ := nine_cells bx0
  go_wp2_with fail
  clear c0 c1 c2 c3 c4 c5 c6 c7 c8
  clear f0 f1 f2 f3 f4 f5 f6 f7 f8
  clear d0 d1 d2 d3 d4 d5 d6 d7 d8
  refine name_call fun W hW => ?_
  have qx1 : Box W (w.heap.size + 1) #[.int .i64 P1.kind, .int .i64 P1.epoch, .int .i64 P1.seq, .int .i64 P1.letter, .slice P1A P1.pieces.length P1k, .int .i64 P1.init, .int .i64 P1.num, .int .i64 P1.count, .slice P1B P1.path.length P1l] 58 := by rw [← hW]; exact nine_box bx1
  have qx0 : Box W (w.heap.size) #[.int .i64 P0.kind, .int .i64 P0.epoch, .int .i64 P0.seq, .int .i64 P0.letter, .slice P0A P0.pieces.length P0k, .int .i64 P0.init, .int .i64 P0.num, .int .i64 P0.count, .slice P0B P0.path.length P0l] 58 := by rw [← hW]; exact bx0.nine_far (by omega)
  have qp0 : FrIs false W (w.heap.size + 1 + 1) W.heap.size (.agg #[.int .i64 P0.kind, .int .i64 P0.epoch, .int .i64 P0.seq, .int .i64 P0.letter, .slice P0A P0.pieces.length P0k, .int .i64 P0.init, .int .i64 P0.num, .int .i64 P0.count, .slice P0B P0.path.length P0l]) P0 := by rw [← hW]; exact hp0.nine_far (by omega)
  have qp1 : FrIs false W (w.heap.size + 1 + 1) W.heap.size (.agg #[.int .i64 P1.kind, .int .i64 P1.epoch, .int .i64 P1.seq, .int .i64 P1.letter, .slice P1A P1.pieces.length P1k, .int .i64 P1.init, .int .i64 P1.num, .int .i64 P1.count, .slice P1B P1.path.length P1l]) P1 := by rw [← hW]; exact hp1.nine_far (by omega)
  have qB : Below w.heap.size w W := by rw [← hW]; exact nine_below hB (by omega)
  have qlo : w.heap.size + 1 + 1 ≤ W.heap.size := by rw [← hW]; exact Nat.le_trans hlo (Nat.le_of_eq nine_size.symm)
  clear bx0 bx1 hp0 hp1 hB hlo hW
  have bx0 := qx0
  clear qx0
  have bx1 := qx1
  clear qx1
  have hp0 := qp0
  clear qp0
  have hp1 := qp1
  clear qp1
  have hB := qB
  have hlo := qlo
  clear qB qlo
  obtain ⟨W0, rfl⟩ : ∃ x : World, x = W := ⟨_, rfl⟩
  replace hp0 := hp0.zero_
  replace hp1 := hp1.zero_
  obtain ⟨X, hX⟩ : ∃ X, ByteArray.mk (Fr.enc P0).toArray = X := ⟨_, rfl⟩
  obtain ⟨E, hE0⟩ : ∃ E, Fr.err P0 = E := ⟨_, rfl⟩
  have hdl := dec_len s.data.toList
  obtain ⟨D, hD⟩ : ∃ D, Fr.dec s.data.toList = D := ⟨_, rfl⟩
  obtain ⟨G, hG⟩ : ∃ G, Fr.decE s.data.toList = G := ⟨_, rfl⟩
  rw [hD] at hdl
  have HX := Lib.hid hX; have HE0 := Lib.hid hE0; have HD := Lib.hid (And.intro hD hG); have HDL := Lib.hid hdl
  clear hX hE0 hD hG hdl
  have b1 : (X.toList == X.toList) = true := by simp
  have b2 : (E == E) = true := by simp
  have b3 : (G == G) = true := by simp
  have HSZ := Lib.hid (show s.data.toList.length ≤ 1000000 by have : s.size = s.data.toList.length := (by rw [Array.length_toList]; rfl); omega)
  obtain ⟨c0, c1, c2, c3, c4, c5, c6, c7, c8⟩ := nine_cells bx0
  refine (cenc hp0 HX.out HE0.out).mono ?_
  rintro e w1 ⟨rfl, hb⟩
  replace bx0 := bx0.next hb
  replace bx1 := bx1.next hb
  replace hp0 := hp0.next hb
  replace hp1 := hp1.next hb
  replace hB := hB.trans (hb.mono hB.size)
  clear hb
  obtain ⟨d0, d1, d2, d3, d4, d5, d6, d7, d8⟩ := nine_cells bx0
  go_wp2_with fail
  clear d0 d1 d2 d3 d4 d5 d6 d7 d8
  refine (cref hp0 HS0.out).mono ?_
  rintro e w2 ⟨⟨QA, Qk, QB, Ql, rfl, hq0⟩, hb⟩
  replace bx0 := bx0.next hb
  replace bx1 := bx1.next hb
  replace hp0 := hp0.next hb
  replace hp1 := hp1.next hb
  replace hB := hB.trans (hb.mono hB.size)
  clear hb
  go_wp2_with fail
  refine (crenc hq0 HX.out HE0.out).mono ?_
  rintro e w3 ⟨rfl, hb⟩
  replace bx0 := bx0.next hb
  replace bx1 := bx1.next hb
  replace hp0 := hp0.next hb
  replace hp1 := hp1.next hb
  replace hq0 := hq0.next hb
  replace hB := hB.trans (hb.mono hB.size)
  clear hb
  clear hq0
  go_wp2_with fail
  refine (cdec (s := s) (f := D) (n := G) _ rfl HSZ.out HD.out).mono ?_
  rintro e w4 ⟨⟨DA, Dk, DB, Dl, rfl, hd⟩, hb⟩
  replace bx0 := bx0.next hb
  replace bx1 := bx1.next hb
  replace hp0 := hp0.next hb
  replace hp1 := hp1.next hb
  replace hB := hB.trans (hb.mono hB.size)
  clear hb
  go_wp2_with fail
  refine (crdec (s := s) (f := D) (n := G) _ rfl HSZ.out HD.out).mono ?_
  rintro e w5 ⟨⟨RA, Rk, RB, Rl, rfl, hr⟩, hb⟩
  have bx5 := (Box.new w4 #[.int .i64 D.kind, .int .i64 D.epoch, .int .i64 D.seq, .int .i64 D.letter, .slice DA D.pieces.length Dk, .int .i64 D.init, .int .i64 D.num, .int .i64 D.count, .slice DB D.path.length Dl] 58).next hb
  replace hb : Below w4.heap.size w4 w5 := ((Below.refl _ _).alloc (Nat.le_refl _) _).trans (hb.mono (by simp))
  replace bx0 := bx0.next hb
  replace bx1 := bx1.next hb
  replace hp0 := hp0.next hb
  replace hp1 := hp1.next hb
  replace hd := hd.next hb
  replace hB := hB.trans (hb.mono hB.size)
  clear hb
  go_upto_region 8 with fail
  refine name_wp fun W1 hW1 => ?_
  have bx6 : Box W1 w5.heap.size #[.int .i64 D.kind, .int .i64 D.epoch, .int .i64 D.seq, .int .i64 D.letter, .slice RA D.pieces.length Rk, .int .i64 D.init, .int .i64 D.num, .int .i64 D.count, .slice RB D.path.length Rl] 64 := hW1 ▸ Box.new _ _ _
  have hb : Below w5.heap.size w5 W1 := hW1 ▸ (Below.refl _ _).alloc (Nat.le_refl _) _
  replace bx0 := bx0.next hb
  replace bx1 := bx1.next hb
  replace hp0 := hp0.next hb
  replace hp1 := hp1.next hb
  replace hd := hd.next hb
  replace hr := hr.next hb
  replace bx5 := bx5.next hb
  replace hB := hB.trans (hb.mono hB.size)
  clear hb hW1
  obtain ⟨rb, hrb⟩ : ∃ rb, Fr.right P0 = rb := ⟨_, rfl⟩
  have HRB := Lib.hid hrb; clear hrb
  obtain ⟨sb, hsb⟩ : ∃ sb, decide (P0 = P1) = sb := ⟨_, rfl⟩
  have HSB := Lib.hid hsb; clear hsb
  replace bx0 := bx0.next ((Below.refl _ _).drew)
  replace bx1 := bx1.next ((Below.refl _ _).drew)
  replace hp0 := hp0.next ((Below.refl _ _).drew)
  replace hp1 := hp1.next ((Below.refl _ _).drew)
  replace hd := hd.next ((Below.refl _ _).drew)
  replace hr := hr.next ((Below.refl _ _).drew)
  replace bx5 := bx5.next ((Below.refl _ _).drew)
  replace bx6 := bx6.next ((Below.refl _ _).drew)
  replace hB := hB.drew
  have hE := Ext.refl (W1.drew)
  refine region_go 170426986687002 (by kernel_rfl) ?_
  obtain ⟨c0, c1, c2, c3, c4, c5, c6, c7, c8⟩ := nine_cells bx0
  refine wpAny_go 170426986687002 0 [0] 1 49 (by kernel_rfl) (by kernel_rfl) (fun _ _ _ _ _ h => h) (by kernel_rfl) (by rfl) (by rfl) (by kernel_rfl) ?_
  simp only [List.map_cons, List.map_nil, List.getD_cons_zero]
  go_wp2_with fail
  change wpAnyM _ _ _ _ _ _ _ _ _ _
  clear c0 c1 c2 c3 c4 c5 c6 c7 c8
  obtain ⟨c0, c1, c2, c3, c4, c5, c6, c7, c8⟩ := nine_cells bx0
  refine wpAny_reads 170426986687002 1 [2] 5 48 (by kernel_rfl) (by kernel_rfl) (fun _ _ _ _ _ h => h) (by kernel_rfl) (by rfl) (by rfl) (by kernel_rfl) ?_
  simp only [List.map_cons, List.map_nil, List.getD_cons_succ, List.getD_cons_zero]
  go_wp2_with fail
  change _ → wpAnyM _ _ _ _ _ _ _ _ _ _; intro _
  clear c0 c1 c2 c3 c4 c5 c6 c7 c8
  refine wpAny_oneM 1 7 (by kernel_rfl) (by kernel_rfl) (of_decide_eq_true (by kernel_rfl)) (by rfl) ?_
  simp only [List.getD_cons_succ, List.getD_cons_zero]
  go_wp2_with fail
  refine (cright hp0 HRB.out).mono ?_
  rintro e w6 ⟨rfl, hb⟩
  replace bx0 := bx0.next hb
  replace bx1 := bx1.next hb
  replace hp0 := hp0.next hb
  replace hp1 := hp1.next hb
  replace hd := hd.next hb
  replace hr := hr.next hb
  replace bx5 := bx5.next hb
  replace bx6 := bx6.next hb
  replace hE := hE.trans (Ext.below hb (Nat.le_refl _))
  replace hB := hB.trans (hb.mono hB.size)
  clear hb
  go_wp2_with fail
  refine ⟨fun _ => hE, ?_⟩
  refine wpAny_oneM 3 15 (by kernel_rfl) (by kernel_rfl) (of_decide_eq_true (by kernel_rfl)) (by rfl) ?_
  simp only [List.getD_cons_succ, List.getD_cons_zero]
  go_wp2_with fail
  refine (cref hp0 HS0.out).mono ?_
  rintro e w7 ⟨⟨QA, Qk, QB, Ql, rfl, hq0⟩, hb⟩
  replace bx0 := bx0.next hb
  replace bx1 := bx1.next hb
  replace hp0 := hp0.next hb
  replace hp1 := hp1.next hb
  replace hd := hd.next hb
  replace hr := hr.next hb
  replace bx5 := bx5.next hb
  replace bx6 := bx6.next hb
  replace hE := hE.trans (Ext.below hb (Nat.le_refl _))
  replace hB := hB.trans (hb.mono hB.size)
  clear hb
  go_wp2_with fail
  refine ⟨fun _ => hE, ?_⟩
  refine wpAny_oneM 4 31 (by kernel_rfl) (by kernel_rfl) (of_decide_eq_true (by kernel_rfl)) (by rfl) ?_
  simp only [List.getD_cons_succ, List.getD_cons_zero]
  go_wp2_with fail
  refine (crright hq0 HRB.out).mono ?_
  rintro e w8 ⟨rfl, hb⟩
  replace bx0 := bx0.next hb
  replace bx1 := bx1.next hb
  replace hp0 := hp0.next hb
  replace hp1 := hp1.next hb
  replace hd := hd.next hb
  replace hr := hr.next hb
  replace bx5 := bx5.next hb
  replace bx6 := bx6.next hb
  replace hq0 := hq0.next hb
  replace hE := hE.trans (Ext.below hb (Nat.le_refl _))
  replace hB := hB.trans (hb.mono hB.size)
  clear hb
  go_wp2_with fail
  refine ⟨fun _ => hE, ?_⟩
  obtain ⟨c0, c1, c2, c3, c4, c5, c6, c7, c8⟩ := nine_cells bx0
  obtain ⟨d0, d1, d2, d3, d4, d5, d6, d7, d8⟩ := nine_cells bx1
  refine wpAny_go 170426986687002 31 [5, 6, 7, 8] 511 41 (by kernel_rfl) (by kernel_rfl) (fun _ _ _ _ _ h => h) (by kernel_rfl) (by rfl) (by rfl) (by kernel_rfl) ?_
  simp only [List.map_cons, List.map_nil, List.getD_cons_succ, List.getD_cons_zero]
  go_wp2_with fail
  change wpAnyM _ _ _ _ _ _ _ _ _ _
  clear c0 c1 c2 c3 c4 c5 c6 c7 c8
  clear d0 d1 d2 d3 d4 d5 d6 d7 d8
  obtain ⟨c0, c1, c2, c3, c4, c5, c6, c7, c8⟩ := nine_cells bx0
  obtain ⟨d0, d1, d2, d3, d4, d5, d6, d7, d8⟩ := nine_cells bx1
  refine wpAnyM_rebase hE _ _ _ _ ?_
  clear hE
  have hE := Ext.refl w8
  refine wpAny_reads 170426986687002 511 [10, 12] 5631 39 (by kernel_rfl) (by kernel_rfl) (fun _ _ _ _ _ h => h) (by kernel_rfl) (by rfl) (by rfl) (by kernel_rfl) ?_
  simp only [List.map_cons, List.map_nil, List.getD_cons_succ, List.getD_cons_zero]
  go_wp2_with fail
  change _ → wpAnyM _ _ _ _ _ _ _ _ _ _; intro _
  clear c0 c1 c2 c3 c4 c5 c6 c7 c8
  clear d0 d1 d2 d3 d4 d5 d6 d7 d8
  refine wpAny_oneM 9 6143 (by kernel_rfl) (by kernel_rfl) (of_decide_eq_true (by kernel_rfl)) (by rfl) ?_
  simp only [List.getD_cons_succ, List.getD_cons_zero]
  go_wp2_with fail
  refine (csame hp0 hp1 HSB.out).mono ?_
  rintro e w9 ⟨rfl, hb⟩
  replace bx0 := bx0.next hb
  replace bx1 := bx1.next hb
  replace hp0 := hp0.next hb
  replace hp1 := hp1.next hb
  replace hd := hd.next hb
  replace hr := hr.next hb
  replace bx5 := bx5.next hb
  replace bx6 := bx6.next hb
  replace hq0 := hq0.next hb
  replace hE := hE.trans (Ext.below hb (Nat.le_refl _))
  replace hB := hB.trans (hb.mono hB.size)
  clear hb
  go_wp2_with fail
  refine ⟨fun _ => hE, ?_⟩
  refine wpAny_oneM 11 8191 (by kernel_rfl) (by kernel_rfl) (of_decide_eq_true (by kernel_rfl)) (by rfl) ?_
  simp only [List.getD_cons_succ, List.getD_cons_zero]
  go_wp2_with fail
  refine (cref hp0 HS0.out).mono ?_
  rintro e w10 ⟨⟨GA, Gk, GB, Gl, rfl, hg0⟩, hb⟩
  replace bx0 := bx0.next hb
  replace bx1 := bx1.next hb
  replace hp0 := hp0.next hb
  replace hp1 := hp1.next hb
  replace hd := hd.next hb
  replace hr := hr.next hb
  replace bx5 := bx5.next hb
  replace bx6 := bx6.next hb
  replace hq0 := hq0.next hb
  replace hE := hE.trans (Ext.below hb (Nat.le_refl _))
  replace hB := hB.trans (hb.mono hB.size)
  clear hb
  go_wp2_with fail
  refine ⟨fun _ => hE, ?_⟩
  refine wpAny_oneM 13 16383 (by kernel_rfl) (by kernel_rfl) (of_decide_eq_true (by kernel_rfl)) (by rfl) ?_
  simp only [List.getD_cons_succ, List.getD_cons_zero]
  go_wp2_with fail
  refine (cref hp1 HS1.out).mono ?_
  rintro e w11 ⟨⟨HA, Hk, HB, Hl, rfl, hg1⟩, hb⟩
  replace bx0 := bx0.next hb
  replace bx1 := bx1.next hb
  replace hp0 := hp0.next hb
  replace hp1 := hp1.next hb
  replace hd := hd.next hb
  replace hr := hr.next hb
  replace bx5 := bx5.next hb
  replace bx6 := bx6.next hb
  replace hq0 := hq0.next hb
  replace hg0 := hg0.next hb
  replace hE := hE.trans (Ext.below hb (Nat.le_refl _))
  replace hB := hB.trans (hb.mono hB.size)
  clear hb
  go_wp2_with fail
  refine ⟨fun _ => hE, ?_⟩
  refine wpAny_oneM 14 32767 (by kernel_rfl) (by kernel_rfl) (of_decide_eq_true (by kernel_rfl)) (by rfl) ?_
  simp only [List.getD_cons_succ, List.getD_cons_zero]
  go_wp2_with fail
  refine (crsame hg0 hg1 HSB.out).mono ?_
  rintro e w12 ⟨rfl, hb⟩
  replace bx0 := bx0.next hb
  replace bx1 := bx1.next hb
  replace hp0 := hp0.next hb
  replace hp1 := hp1.next hb
  replace hd := hd.next hb
  replace hr := hr.next hb
  replace bx5 := bx5.next hb
  replace bx6 := bx6.next hb
  replace hq0 := hq0.next hb
  replace hg0 := hg0.next hb
  replace hg1 := hg1.next hb
  replace hE := hE.trans (Ext.below hb (Nat.le_refl _))
  replace hB := hB.trans (hb.mono hB.size)
  clear hb
  go_wp2_with fail
  refine ⟨fun _ => hE, ?_⟩
  obtain ⟨c0, c1, c2, c3, c4, c5, c6, c7, c8⟩ := nine_cells bx5
  refine wpAny_go 170426986687002 32767 [15, 16, 17, 18, 19, 20, 21, 22, 23, 24, 25, 26, 27, 28] 536870911 21 (by kernel_rfl) (by kernel_rfl) (fun _ _ _ _ _ h => h) (by kernel_rfl) (by rfl) (by rfl) (by kernel_rfl) ?_
  simp only [List.map_cons, List.map_nil, List.getD_cons_succ, List.getD_cons_zero]
  go_wp2_with fail
  change wpAnyM _ _ _ _ _ _ _ _ _ _
  clear c0 c1 c2 c3 c4 c5 c6 c7 c8
  obtain ⟨c0, c1, c2, c3, c4, c5, c6, c7, c8⟩ := nine_cells bx6
  refine wpAnyM_rebase hE _ _ _ _ ?_
  clear hE
  have hE := Ext.refl w12
  refine wpAny_reads 170426986687002 536870911 [30] 1610612735 20 (by kernel_rfl) (by kernel_rfl) (fun _ _ _ _ _ h => h) (by kernel_rfl) (by rfl) (by rfl) (by kernel_rfl) ?_
  simp only [List.map_cons, List.map_nil, List.getD_cons_succ, List.getD_cons_zero]
  go_wp2_with fail
  change _ → wpAnyM _ _ _ _ _ _ _ _ _ _; intro _
  clear c0 c1 c2 c3 c4 c5 c6 c7 c8
  refine wpAny_oneM 29 2147483647 (by kernel_rfl) (by kernel_rfl) (of_decide_eq_true (by kernel_rfl)) (by rfl) ?_
  simp only [List.getD_cons_succ, List.getD_cons_zero]
  go_wp2_with fail
  refine (cref2 hd HDL.out).mono ?_
  rintro e w13 ⟨⟨IA, Ik, IB, Il, rfl, hi0⟩, hb⟩
  replace bx0 := bx0.next hb
  replace bx1 := bx1.next hb
  replace hp0 := hp0.next hb
  replace hp1 := hp1.next hb
  replace hd := hd.next hb
  replace hr := hr.next hb
  replace bx5 := bx5.next hb
  replace bx6 := bx6.next hb
  replace hq0 := hq0.next hb
  replace hg0 := hg0.next hb
  replace hg1 := hg1.next hb
  replace hE := hE.trans (Ext.below hb (Nat.le_refl _))
  replace hB := hB.trans (hb.mono hB.size)
  clear hb
  go_wp2_with fail
  refine ⟨fun _ => hE, ?_⟩
  refine wpAny_oneM 31 4294967295 (by kernel_rfl) (by kernel_rfl) (of_decide_eq_true (by kernel_rfl)) (by rfl) ?_
  simp only [List.getD_cons_succ, List.getD_cons_zero]
  go_wp2_with fail
  refine (crsame hi0 hr (decide_eq_true rfl)).mono ?_
  rintro e w14 ⟨rfl, hb⟩
  replace bx0 := bx0.next hb
  replace bx1 := bx1.next hb
  replace hp0 := hp0.next hb
  replace hp1 := hp1.next hb
  replace hd := hd.next hb
  replace hr := hr.next hb
  replace bx5 := bx5.next hb
  replace bx6 := bx6.next hb
  replace hq0 := hq0.next hb
  replace hg0 := hg0.next hb
  replace hg1 := hg1.next hb
  replace hi0 := hi0.next hb
  replace hE := hE.trans (Ext.below hb (Nat.le_refl _))
  replace hB := hB.trans (hb.mono hB.size)
  clear hb
  go_wp2_with fail
  refine ⟨fun _ => hE, ?_⟩
  obtain ⟨c0, c1, c2, c3, c4, c5, c6, c7, c8⟩ := nine_cells bx0
  refine wpAny_go 170426986687002 4294967295 [32, 33, 34, 35, 36, 37, 38, 39] 1099511627775 10 (by kernel_rfl) (by kernel_rfl) (fun _ _ _ _ _ h => h) (by kernel_rfl) (by rfl) (by rfl) (by kernel_rfl) ?_
  simp only [List.map_cons, List.map_nil, List.getD_cons_succ, List.getD_cons_zero]
  go_wp2_with fail
  change wpAnyM _ _ _ _ _ _ _ _ _ _
  clear c0 c1 c2 c3 c4 c5 c6 c7 c8
  obtain ⟨c0, c1, c2, c3, c4, c5, c6, c7, c8⟩ := nine_cells bx0
  refine wpAnyM_rebase hE _ _ _ _ ?_
  clear hE
  have hE := Ext.refl w14
  refine wpAny_reads 170426986687002 1099511627775 [42] 5497558138879 9 (by kernel_rfl) (by kernel_rfl) (fun _ _ _ _ _ h => h) (by kernel_rfl) (by rfl) (by rfl) (by kernel_rfl) ?_
  simp only [List.map_cons, List.map_nil, List.getD_cons_succ, List.getD_cons_zero]
  go_wp2_with fail
  change _ → wpAnyM _ _ _ _ _ _ _ _ _ _; intro _
  clear c0 c1 c2 c3 c4 c5 c6 c7 c8
  refine wpAny_oneM 40 6597069766655 (by kernel_rfl) (by kernel_rfl) (of_decide_eq_true (by kernel_rfl)) (by rfl) ?_
  simp only [List.getD_cons_succ, List.getD_cons_zero]
  go_wp2_with fail
  refine (cown hp0 HS0.out).mono ?_
  rintro e w15 ⟨⟨JA, Jk, JB, Jl, rfl, hj0⟩, hb⟩
  replace bx0 := bx0.next hb
  replace bx1 := bx1.next hb
  replace hp0 := hp0.next hb
  replace hp1 := hp1.next hb
  replace hd := hd.next hb
  replace hr := hr.next hb
  replace bx5 := bx5.next hb
  replace bx6 := bx6.next hb
  replace hq0 := hq0.next hb
  replace hg0 := hg0.next hb
  replace hg1 := hg1.next hb
  replace hi0 := hi0.next hb
  replace hE := hE.trans (Ext.below hb (Nat.le_refl _))
  replace hB := hB.trans (hb.mono hB.size)
  clear hb
  go_wp2_with fail
  refine ⟨fun _ => hE, ?_⟩
  refine wpAny_oneM 41 8796093022207 (by kernel_rfl) (by kernel_rfl) (of_decide_eq_true (by kernel_rfl)) (by rfl) ?_
  simp only [List.getD_cons_succ, List.getD_cons_zero]
  go_wp2_with fail
  refine (cref hj0 HS0.out).mono ?_
  rintro e w16 ⟨⟨KA, Kk, KB, Kl, rfl, hk0⟩, hb⟩
  replace bx0 := bx0.next hb
  replace bx1 := bx1.next hb
  replace hp0 := hp0.next hb
  replace hp1 := hp1.next hb
  replace hd := hd.next hb
  replace hr := hr.next hb
  replace bx5 := bx5.next hb
  replace bx6 := bx6.next hb
  replace hq0 := hq0.next hb
  replace hg0 := hg0.next hb
  replace hg1 := hg1.next hb
  replace hi0 := hi0.next hb
  replace hj0 := hj0.next hb
  replace hE := hE.trans (Ext.below hb (Nat.le_refl _))
  replace hB := hB.trans (hb.mono hB.size)
  clear hb
  go_wp2_with fail
  refine ⟨fun _ => hE, ?_⟩
  refine wpAny_oneM 43 17592186044415 (by kernel_rfl) (by kernel_rfl) (of_decide_eq_true (by kernel_rfl)) (by rfl) ?_
  simp only [List.getD_cons_succ, List.getD_cons_zero]
  go_wp2_with fail
  refine (cref hp0 HS0.out).mono ?_
  rintro e w17 ⟨⟨LA, Lk, LB, Ll, rfl, hl0⟩, hb⟩
  replace bx0 := bx0.next hb
  replace bx1 := bx1.next hb
  replace hp0 := hp0.next hb
  replace hp1 := hp1.next hb
  replace hd := hd.next hb
  replace hr := hr.next hb
  replace bx5 := bx5.next hb
  replace bx6 := bx6.next hb
  replace hq0 := hq0.next hb
  replace hg0 := hg0.next hb
  replace hg1 := hg1.next hb
  replace hi0 := hi0.next hb
  replace hj0 := hj0.next hb
  replace hk0 := hk0.next hb
  replace hE := hE.trans (Ext.below hb (Nat.le_refl _))
  replace hB := hB.trans (hb.mono hB.size)
  clear hb
  go_wp2_with fail
  refine ⟨fun _ => hE, ?_⟩
  refine wpAny_oneM 44 35184372088831 (by kernel_rfl) (by kernel_rfl) (of_decide_eq_true (by kernel_rfl)) (by rfl) ?_
  simp only [List.getD_cons_succ, List.getD_cons_zero]
  go_wp2_with fail
  refine (crsame hk0 hl0 (decide_eq_true rfl)).mono ?_
  rintro e w18 ⟨rfl, hb⟩
  replace bx0 := bx0.next hb
  replace bx1 := bx1.next hb
  replace hp0 := hp0.next hb
  replace hp1 := hp1.next hb
  replace hd := hd.next hb
  replace hr := hr.next hb
  replace bx5 := bx5.next hb
  replace bx6 := bx6.next hb
  replace hq0 := hq0.next hb
  replace hg0 := hg0.next hb
  replace hg1 := hg1.next hb
  replace hi0 := hi0.next hb
  replace hj0 := hj0.next hb
  replace hk0 := hk0.next hb
  replace hl0 := hl0.next hb
  replace hE := hE.trans (Ext.below hb (Nat.le_refl _))
  replace hB := hB.trans (hb.mono hB.size)
  clear hb
  go_wp2_with fail
  refine ⟨fun _ => hE, ?_⟩
  refine wpAny_go 170426986687002 35184372088831 [45, 46] 140737488355327 3 (by kernel_rfl) (by kernel_rfl) (fun _ _ _ _ _ h => h) (by kernel_rfl) (by rfl) (by rfl) (by kernel_rfl) ?_
  simp only [List.map_cons, List.map_nil, List.getD_cons_succ, List.getD_cons_zero]
  go_wp2_with fail
  change wpAnyM _ _ _ _ _ _ _ _ _ _
  refine wpAny_oneM 47 281474976710655 (by kernel_rfl) (by kernel_rfl) (of_decide_eq_true (by kernel_rfl)) (by rfl) ?_
  simp only [List.getD_cons_succ, List.getD_cons_zero]
  go_wp2_with fail
  refine (fixed7_any _).mono ?_
  rintro e w19 ⟨rfl, hb⟩
  replace bx0 := bx0.next hb
  replace bx1 := bx1.next hb
  replace hp0 := hp0.next hb
  replace hp1 := hp1.next hb
  replace hd := hd.next hb
  replace hr := hr.next hb
  replace bx5 := bx5.next hb
  replace bx6 := bx6.next hb
  replace hq0 := hq0.next hb
  replace hg0 := hg0.next hb
  replace hg1 := hg1.next hb
  replace hi0 := hi0.next hb
  replace hj0 := hj0.next hb
  replace hk0 := hk0.next hb
  replace hl0 := hl0.next hb
  replace hE := hE.trans (Ext.below hb (Nat.le_refl _))
  replace hB := hB.trans (hb.mono hB.size)
  clear hb
  go_wp2_with fail
  refine ⟨fun _ => hE, ?_⟩
  refine wpAny_go 170426986687002 281474976710655 [48, 49] 1125899906842623 0 (by kernel_rfl) (by kernel_rfl) (fun _ _ _ _ _ h => h) (by kernel_rfl) (by rfl) (by rfl) (by kernel_rfl) ?_
  simp only [List.map_cons, List.map_nil, List.getD_cons_succ, List.getD_cons_zero]
  go_wp2_with fail
  change wpAnyM _ _ _ _ _ _ _ _ _ _
  refine wpAny_endM (by kernel_rfl) (by kernel_rfl) ?_
  go_wp2_with fail
  go_ret
  exact ⟨rfl, hB⟩
end Go.Proofs.Ytdfgnmdofjhnkaa.frameTells
