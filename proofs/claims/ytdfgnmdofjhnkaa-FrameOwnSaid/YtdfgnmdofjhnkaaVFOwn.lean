/- FrameOwn: the walk. -/
import Derived.Test.YtdfgnmdofjhnkaaG22
namespace Go.Proofs.Ytdfgnmdofjhnkaa.frameOwn
open Go.RowKit Go.Proofs.Ytdfgnmdofjhnkaa

set_option maxRecDepth 100000 in
set_option maxHeartbeats 8000000 in
theorem walk (v0 : Value) (f0 : Fr) (w : World) (h0 : FrIs false w 0 w.heap.size v0 f0) :
    Calls Try.prog 14 #[v0] w fun x w' => x = .returned (.bool true) ∧ Below w.heap.size w w' := by
  obtain ⟨a0A, a0B, a0k, a0l, rfl, _, _⟩ := id h0
  obtain ⟨P0, hP0⟩ : ∃ P, Fr.cut f0 = P := ⟨_, rfl⟩
  have hs0 : P0.Small := hP0 ▸ Fr.cut_small _
  have HP0 := Lib.hid hP0; have HS0 := Lib.hid hs0; clear hP0 hs0
  go_enter Try.func14, Try.ntmps14
  try simp only [List.append_eq, List.cons_append, List.nil_append]
  go_wp2_with fail
  refine name_call fun W0 hW0 => ?_
  have bx0 : Box W0 (w.heap.size) #[.int .i64 f0.kind, .int .i64 f0.epoch, .int .i64 f0.seq, .int .i64 f0.letter, .slice a0A f0.pieces.length a0k, .int .i64 f0.init, .int .i64 f0.num, .int .i64 f0.count, .slice a0B f0.path.length a0l] 58 := hW0 ▸ (Box.new' #[.int .i64 f0.kind, .int .i64 f0.epoch, .int .i64 f0.seq, .int .i64 f0.letter, .slice a0A f0.pieces.length a0k, .int .i64 f0.init, .int .i64 f0.num, .int .i64 f0.count, .slice a0B f0.path.length a0l] 58 (by simp))
  have hB : Below w.heap.size w W0 := hW0 ▸ ((Below.refl _ _).alloc (by first | (simp; done) | (simp; omega)) _)
  have hlo : w.heap.size + 1 ≤ W0.heap.size := hW0 ▸ (by simp)
  clear hW0
  refine (ccut (f := P0) ((h0.keep fun b _ q => hB.block b q).widen (Nat.le_refl _) hB.size) HP0.out).mono ?_
  rintro e v0 ⟨⟨P0A, P0k, P0B, P0l, rfl, hp0⟩, hb⟩
  replace bx0 := bx0.next hb
  replace hp0 := hp0.widen (lo' := w.heap.size + 1) hlo (Nat.le_refl _)
  replace hB := hB.trans (hb.mono hB.size)
  replace hlo := Nat.le_trans hlo hb.size
  clear hb
  obtain ⟨c0, c1, c2, c3, c4, c5, c6, c7, c8⟩ := nine_cells bx0
  obtain ⟨f0, f1, f2, f3, f4, f5, f6, f7, f8⟩ := nine_free bx0
  go_upto_region 2 with fail
  clear c0 c1 c2 c3 c4 c5 c6 c7 c8
  clear f0 f1 f2 f3 f4 f5 f6 f7 f8
  refine name_wp fun W hW => ?_
  have qx0 : Box W (w.heap.size) #[.int .i64 P0.kind, .int .i64 P0.epoch, .int .i64 P0.seq, .int .i64 P0.letter, .slice P0A P0.pieces.length P0k, .int .i64 P0.init, .int .i64 P0.num, .int .i64 P0.count, .slice P0B P0.path.length P0l] 58 := by rw [← hW]; exact nine_box bx0
  have qp0 : FrIs false W (w.heap.size + 1) W.heap.size (.agg #[.int .i64 P0.kind, .int .i64 P0.epoch, .int .i64 P0.seq, .int .i64 P0.letter, .slice P0A P0.pieces.length P0k, .int .i64 P0.init, .int .i64 P0.num, .int .i64 P0.count, .slice P0B P0.path.length P0l]) P0 := by rw [← hW]; exact hp0.nine_far (by omega)
  have qB : Below w.heap.size w W := by rw [← hW]; exact nine_below hB (by omega)
  have qlo : w.heap.size + 1 ≤ W.heap.size := by rw [← hW]; exact Nat.le_trans hlo (Nat.le_of_eq nine_size.symm)
  clear bx0 hp0 hB hlo hW
  have bx0 := qx0
  clear qx0
  have hp0 := qp0
  clear qp0
  have hB := qB
  have hlo := qlo
  clear qB qlo
  obtain ⟨W0, rfl⟩ : ∃ x : World, x = W := ⟨_, rfl⟩
  replace hp0 := hp0.zero_
  have HCC := Lib.hid (show Fr.cut P0 = P0 by rw [← HP0.out]; exact Fr.cut_cut _)
  obtain ⟨W1, rfl⟩ : ∃ x : World, x = W0 := ⟨_, rfl⟩
  go_cut [3, 4] (fun p q wx => Sides7 P0 W1 p q wx)
  case first =>
    have hV := Below.refl W1.heap.size W1
    clear hB hlo
    replace bx0 := bx0.next ((Below.refl _ _).drew)
    replace hp0 := hp0.next ((Below.refl _ _).drew)
    replace hV := hV.drew
    have hE := Ext.refl (W1.drew)
    refine region_go 26 (by kernel_rfl) ?_
    obtain ⟨c0, c1, c2, c3, c4, c5, c6, c7, c8⟩ := nine_cells bx0
    refine wpAny_go 26 0 [0] 1 8 (by kernel_rfl) (by kernel_rfl) (fun _ _ _ _ _ h => h) (by kernel_rfl) (by rfl) (by rfl) (by kernel_rfl) ?_
    simp only [List.map_cons, List.map_nil, List.getD_cons_zero]
    go_wp2_with fail
    change wpAnyM _ _ _ _ _ _ _ _ _ _
    refine wpAny_reads 26 1 [2] 5 7 (by kernel_rfl) (by kernel_rfl) (fun _ _ _ _ _ h => h) (by kernel_rfl) (by rfl) (by rfl) (by kernel_rfl) ?_
    simp only [List.map_cons, List.map_nil, List.getD_cons_succ, List.getD_cons_zero]
    go_wp2_with fail
    change _ → wpAnyM _ _ _ _ _ _ _ _ _ _; intro _
    clear c0 c1 c2 c3 c4 c5 c6 c7 c8
    obtain ⟨u0, hu0⟩ : ∃ u : World, u = W1.drew := ⟨_, rfl⟩
    have s0 : W1.heap.size ≤ u0.heap.size := hu0 ▸ (by simp)
    rw [← hu0] at hE hp0 hV ⊢
    clear hu0 bx0
    refine wpAny_threeM 1 5 6 7 37 69 (by kernel_rfl) (by kernel_rfl) (of_decide_eq_true (by kernel_rfl)) (of_decide_eq_true (by kernel_rfl)) (of_decide_eq_true (by kernel_rfl)) (by rfl) (by rfl) (by rfl) ?_ ?_ ?_
    ·
      simp only [List.getD_cons_succ, List.getD_cons_zero]
      go_wp2_with fail
      refine (frown_any _ P0 _ hp0 (by have h := HS0.out.1; omega) (by have h := HS0.out.2.1; omega) HS0.out.2.2).mono ?_
      rintro e u1 ⟨⟨va, rfl, ha⟩, hh⟩
      have s1 := hh.size
      replace hp0 := hp0.next hh
      replace hE := hE.trans (Ext.below hh (Nat.le_refl _))
      replace hV := hV.trans (hh.mono hV.size)
      clear hh
      replace ha : FixF true u1 u0.heap.size u1.heap.size va P0 := ⟨ha.fr, Nat.le_refl _⟩
      go_wp2_with fail
      refine ⟨fun _ => hE, ?_⟩
      refine wpAny_threeM 3 5 6 15 39 71 (by kernel_rfl) (by kernel_rfl) (of_decide_eq_true (by kernel_rfl)) (of_decide_eq_true (by kernel_rfl)) (of_decide_eq_true (by kernel_rfl)) (by rfl) (by rfl) (by rfl) ?_ ?_ ?_
      ·
        simp only [List.getD_cons_succ, List.getD_cons_zero]
        go_wp2_with fail
        refine (frcut_any _ P0 _ hp0).mono ?_
        rw [HCC.out]
        rintro e u2 ⟨⟨vc, rfl, hc⟩, hh⟩
        have s2 := hh.size
        replace hp0 := hp0.next hh
        replace ha := ha.next hh
        replace hE := hE.trans (Ext.below hh (Nat.le_refl _))
        replace hV := hV.trans (hh.mono hV.size)
        clear hh
        replace hc : FixF false u2 u1.heap.size u2.heap.size vc P0 := ⟨hc, Nat.le_refl _⟩
        go_wp2_with fail
        refine ⟨fun _ => hE, ?_⟩
        refine wpAny_threeM 4 5 6 31 47 79 (by kernel_rfl) (by kernel_rfl) (of_decide_eq_true (by kernel_rfl)) (of_decide_eq_true (by kernel_rfl)) (of_decide_eq_true (by kernel_rfl)) (by rfl) (by rfl) (by rfl) ?_ ?_ ?_
        ·
          simp only [List.getD_cons_succ, List.getD_cons_zero]
          go_wp2_with fail
          refine (frrefl_any u1.heap.size u2.heap.size _ P0 _ hc.2 hc.1 (by have h := HS0.out.1; omega)).mono ?_
          rintro e u3 ⟨⟨vd, rfl, hd⟩, hh⟩
          have s3 := hh.size
          replace hp0 := hp0.next hh
          replace ha := ha.next hh
          replace hc := hc.next hh
          replace hE := hE.trans (Ext.below hh (Nat.le_refl _))
          replace hV := hV.trans (hh.mono hV.size)
          clear hh
          replace hd : FixS u3 (fun b => (u1.heap.size ≤ b ∧ b < u2.heap.size) ∨ (u2.heap.size ≤ b ∧ b < u3.heap.size)) vd P0 := ⟨hd, fun b hb => by omega⟩
          go_wp2_with fail
          refine ⟨fun _ => hE, ?_⟩
          refine wpAny_twoM 5 6 63 95 (by kernel_rfl) (by kernel_rfl) (of_decide_eq_true (by kernel_rfl)) (of_decide_eq_true (by kernel_rfl)) (by rfl) (by rfl) ?_ ?_
          ·
            simp only [List.getD_cons_succ, List.getD_cons_zero]
            go_wp2_with fail
            refine ⟨fun h => absurd h (by decide), name_any fun u4 hw => ?_⟩
            have x3 : Box u4 u3.heap.size #[.int .i64 0, .int .i64 0, .int .i64 0, .int .i64 0, .slice none 0 0, .int .i64 0, .int .i64 0, .int .i64 0, .slice none 0 0] 58 := hw ▸ Box.new _ _ _
            have hh : Below u3.heap.size u3 u4 := hw ▸ ((Below.refl _ _).alloc (Nat.le_refl _) _)
            have s4 : u3.heap.size < u4.heap.size := hw ▸ (by simp)
            clear hw
            replace hp0 := hp0.next hh
            replace ha := ha.next hh
            replace hc := hc.next hh
            replace hd := hd.next hh
            replace hE := hE.trans (Ext.below hh (Nat.le_refl _))
            replace hV := hV.trans (hh.mono hV.size)
            clear hh
            refine wpAny_oneM 6 127 (by kernel_rfl) (by kernel_rfl) (of_decide_eq_true (by kernel_rfl)) (by rfl) ?_
            simp only [List.getD_cons_succ, List.getD_cons_zero]
            go_wp2_with fail
            refine ⟨fun h => absurd h (by decide), name_any fun u5 hw => ?_⟩
            have x4 : Box u5 u4.heap.size #[.int .i64 0, .int .i64 0, .int .i64 0, .int .i64 0, .slice none 0 0, .int .i64 0, .int .i64 0, .int .i64 0, .slice none 0 0] 64 := hw ▸ Box.new _ _ _
            have hh : Below u4.heap.size u4 u5 := hw ▸ ((Below.refl _ _).alloc (Nat.le_refl _) _)
            have s5 : u4.heap.size < u5.heap.size := hw ▸ (by simp)
            clear hw
            replace hp0 := hp0.next hh
            replace ha := ha.next hh
            replace hc := hc.next hh
            replace hd := hd.next hh
            replace x3 := x3.next hh
            replace hE := hE.trans (Ext.below hh (Nat.le_refl _))
            replace hV := hV.trans (hh.mono hV.size)
            clear hh
            obtain ⟨aA, aB, ak, al, rfl, _, _⟩ := id ha.1
            obtain ⟨dA, dB, dk, dl, rfl, _, _⟩ := id hd.1
            obtain ⟨d0, d1, d2, d3, d4, d5, d6, d7, d8⟩ := nine_cells x3
            obtain ⟨f0, f1, f2, f3, f4, f5, f6, f7, f8⟩ := nine_free x3
            refine wpAny_go 26 127 [7] 255 1 (by kernel_rfl) (by kernel_rfl) (fun _ _ _ _ _ h => h) (by kernel_rfl) (by rfl) (by rfl) (by kernel_rfl) ?_
            simp only [List.map_cons, List.map_nil, List.getD_cons_succ, List.getD_cons_zero]
            go_wp2_with fail
            change wpAnyM _ _ _ _ _ _ _ _ _ _
            clear d0 d1 d2 d3 d4 d5 d6 d7 d8
            clear f0 f1 f2 f3 f4 f5 f6 f7 f8
            refine name_any fun uz hw => ?_
            have y4 : Box uz u4.heap.size #[.int .i64 0, .int .i64 0, .int .i64 0, .int .i64 0, .slice none 0 0, .int .i64 0, .int .i64 0, .int .i64 0, .slice none 0 0] 64 := by rw [← hw]; exact x4.nine_far (by omega)
            obtain ⟨d0, d1, d2, d3, d4, d5, d6, d7, d8⟩ := nine_cells y4
            obtain ⟨f0, f1, f2, f3, f4, f5, f6, f7, f8⟩ := nine_free y4
            refine wpAny_go 26 255 [8] 511 0 (by kernel_rfl) (by kernel_rfl) (fun _ _ _ _ _ h => h) (by kernel_rfl) (by rfl) (by rfl) (by kernel_rfl) ?_
            simp only [List.map_cons, List.map_nil, List.getD_cons_succ, List.getD_cons_zero]
            go_wp2_with fail
            change wpAnyM _ _ _ _ _ _ _ _ _ _
            clear d0 d1 d2 d3 d4 d5 d6 d7 d8
            clear f0 f1 f2 f3 f4 f5 f6 f7 f8
            subst hw
            refine wpAny_endM (by kernel_rfl) (by kernel_rfl) ?_
            go_wp2_with fail
            go_meet
            have z1 := ha.2
            exact Sides7.of x3 x4 ha hd (by omega) (by omega) (by omega) (by omega) (by omega) (by omega) (by omega) (by omega) (by omega) hV
          ·
            simp only [List.getD_cons_succ, List.getD_cons_zero]
            go_wp2_with fail
            refine ⟨fun h => absurd h (by decide), name_any fun u4 hw => ?_⟩
            have x4 : Box u4 u3.heap.size #[.int .i64 0, .int .i64 0, .int .i64 0, .int .i64 0, .slice none 0 0, .int .i64 0, .int .i64 0, .int .i64 0, .slice none 0 0] 64 := hw ▸ Box.new _ _ _
            have hh : Below u3.heap.size u3 u4 := hw ▸ ((Below.refl _ _).alloc (Nat.le_refl _) _)
            have s4 : u3.heap.size < u4.heap.size := hw ▸ (by simp)
            clear hw
            replace hp0 := hp0.next hh
            replace ha := ha.next hh
            replace hc := hc.next hh
            replace hd := hd.next hh
            replace hE := hE.trans (Ext.below hh (Nat.le_refl _))
            replace hV := hV.trans (hh.mono hV.size)
            clear hh
            refine wpAny_oneM 5 127 (by kernel_rfl) (by kernel_rfl) (of_decide_eq_true (by kernel_rfl)) (by rfl) ?_
            simp only [List.getD_cons_succ, List.getD_cons_zero]
            go_wp2_with fail
            refine ⟨fun h => absurd h (by decide), name_any fun u5 hw => ?_⟩
            have x3 : Box u5 u4.heap.size #[.int .i64 0, .int .i64 0, .int .i64 0, .int .i64 0, .slice none 0 0, .int .i64 0, .int .i64 0, .int .i64 0, .slice none 0 0] 58 := hw ▸ Box.new _ _ _
            have hh : Below u4.heap.size u4 u5 := hw ▸ ((Below.refl _ _).alloc (Nat.le_refl _) _)
            have s5 : u4.heap.size < u5.heap.size := hw ▸ (by simp)
            clear hw
            replace hp0 := hp0.next hh
            replace ha := ha.next hh
            replace hc := hc.next hh
            replace hd := hd.next hh
            replace x4 := x4.next hh
            replace hE := hE.trans (Ext.below hh (Nat.le_refl _))
            replace hV := hV.trans (hh.mono hV.size)
            clear hh
            obtain ⟨aA, aB, ak, al, rfl, _, _⟩ := id ha.1
            obtain ⟨dA, dB, dk, dl, rfl, _, _⟩ := id hd.1
            obtain ⟨d0, d1, d2, d3, d4, d5, d6, d7, d8⟩ := nine_cells x3
            obtain ⟨f0, f1, f2, f3, f4, f5, f6, f7, f8⟩ := nine_free x3
            refine wpAny_go 26 127 [7] 255 1 (by kernel_rfl) (by kernel_rfl) (fun _ _ _ _ _ h => h) (by kernel_rfl) (by rfl) (by rfl) (by kernel_rfl) ?_
            simp only [List.map_cons, List.map_nil, List.getD_cons_succ, List.getD_cons_zero]
            go_wp2_with fail
            change wpAnyM _ _ _ _ _ _ _ _ _ _
            clear d0 d1 d2 d3 d4 d5 d6 d7 d8
            clear f0 f1 f2 f3 f4 f5 f6 f7 f8
            refine name_any fun uz hw => ?_
            have y4 : Box uz u3.heap.size #[.int .i64 0, .int .i64 0, .int .i64 0, .int .i64 0, .slice none 0 0, .int .i64 0, .int .i64 0, .int .i64 0, .slice none 0 0] 64 := by rw [← hw]; exact x4.nine_far (by omega)
            obtain ⟨d0, d1, d2, d3, d4, d5, d6, d7, d8⟩ := nine_cells y4
            obtain ⟨f0, f1, f2, f3, f4, f5, f6, f7, f8⟩ := nine_free y4
            refine wpAny_go 26 255 [8] 511 0 (by kernel_rfl) (by kernel_rfl) (fun _ _ _ _ _ h => h) (by kernel_rfl) (by rfl) (by rfl) (by kernel_rfl) ?_
            simp only [List.map_cons, List.map_nil, List.getD_cons_succ, List.getD_cons_zero]
            go_wp2_with fail
            change wpAnyM _ _ _ _ _ _ _ _ _ _
            clear d0 d1 d2 d3 d4 d5 d6 d7 d8
            clear f0 f1 f2 f3 f4 f5 f6 f7 f8
            subst hw
            refine wpAny_endM (by kernel_rfl) (by kernel_rfl) ?_
            go_wp2_with fail
            go_meet
            have z1 := ha.2
            exact Sides7.of x3 x4 ha hd (by omega) (by omega) (by omega) (by omega) (by omega) (by omega) (by omega) (by omega) (by omega) hV
        ·
          simp only [List.getD_cons_succ, List.getD_cons_zero]
          go_wp2_with fail
          refine ⟨fun h => absurd h (by decide), name_any fun u3 hw => ?_⟩
          have x3 : Box u3 u2.heap.size #[.int .i64 0, .int .i64 0, .int .i64 0, .int .i64 0, .slice none 0 0, .int .i64 0, .int .i64 0, .int .i64 0, .slice none 0 0] 58 := hw ▸ Box.new _ _ _
          have hh : Below u2.heap.size u2 u3 := hw ▸ ((Below.refl _ _).alloc (Nat.le_refl _) _)
          have s3 : u2.heap.size < u3.heap.size := hw ▸ (by simp)
          clear hw
          replace hp0 := hp0.next hh
          replace ha := ha.next hh
          replace hc := hc.next hh
          replace hE := hE.trans (Ext.below hh (Nat.le_refl _))
          replace hV := hV.trans (hh.mono hV.size)
          clear hh
          refine wpAny_twoM 4 6 63 111 (by kernel_rfl) (by kernel_rfl) (of_decide_eq_true (by kernel_rfl)) (of_decide_eq_true (by kernel_rfl)) (by rfl) (by rfl) ?_ ?_
          ·
            simp only [List.getD_cons_succ, List.getD_cons_zero]
            go_wp2_with fail
            refine (frrefl_any u1.heap.size u2.heap.size _ P0 _ hc.2 hc.1 (by have h := HS0.out.1; omega)).mono ?_
            rintro e u4 ⟨⟨vd, rfl, hd⟩, hh⟩
            have s4 := hh.size
            replace hp0 := hp0.next hh
            replace ha := ha.next hh
            replace hc := hc.next hh
            replace x3 := x3.next hh
            replace hE := hE.trans (Ext.below hh (Nat.le_refl _))
            replace hV := hV.trans (hh.mono hV.size)
            clear hh
            replace hd : FixS u4 (fun b => (u1.heap.size ≤ b ∧ b < u2.heap.size) ∨ (u3.heap.size ≤ b ∧ b < u4.heap.size)) vd P0 := ⟨hd, fun b hb => by omega⟩
            go_wp2_with fail
            refine ⟨fun _ => hE, ?_⟩
            refine wpAny_oneM 6 127 (by kernel_rfl) (by kernel_rfl) (of_decide_eq_true (by kernel_rfl)) (by rfl) ?_
            simp only [List.getD_cons_succ, List.getD_cons_zero]
            go_wp2_with fail
            refine ⟨fun h => absurd h (by decide), name_any fun u5 hw => ?_⟩
            have x4 : Box u5 u4.heap.size #[.int .i64 0, .int .i64 0, .int .i64 0, .int .i64 0, .slice none 0 0, .int .i64 0, .int .i64 0, .int .i64 0, .slice none 0 0] 64 := hw ▸ Box.new _ _ _
            have hh : Below u4.heap.size u4 u5 := hw ▸ ((Below.refl _ _).alloc (Nat.le_refl _) _)
            have s5 : u4.heap.size < u5.heap.size := hw ▸ (by simp)
            clear hw
            replace hp0 := hp0.next hh
            replace ha := ha.next hh
            replace hc := hc.next hh
            replace x3 := x3.next hh
            replace hd := hd.next hh
            replace hE := hE.trans (Ext.below hh (Nat.le_refl _))
            replace hV := hV.trans (hh.mono hV.size)
            clear hh
            obtain ⟨aA, aB, ak, al, rfl, _, _⟩ := id ha.1
            obtain ⟨dA, dB, dk, dl, rfl, _, _⟩ := id hd.1
            obtain ⟨d0, d1, d2, d3, d4, d5, d6, d7, d8⟩ := nine_cells x3
            obtain ⟨f0, f1, f2, f3, f4, f5, f6, f7, f8⟩ := nine_free x3
            refine wpAny_go 26 127 [7] 255 1 (by kernel_rfl) (by kernel_rfl) (fun _ _ _ _ _ h => h) (by kernel_rfl) (by rfl) (by rfl) (by kernel_rfl) ?_
            simp only [List.map_cons, List.map_nil, List.getD_cons_succ, List.getD_cons_zero]
            go_wp2_with fail
            change wpAnyM _ _ _ _ _ _ _ _ _ _
            clear d0 d1 d2 d3 d4 d5 d6 d7 d8
            clear f0 f1 f2 f3 f4 f5 f6 f7 f8
            refine name_any fun uz hw => ?_
            have y4 : Box uz u4.heap.size #[.int .i64 0, .int .i64 0, .int .i64 0, .int .i64 0, .slice none 0 0, .int .i64 0, .int .i64 0, .int .i64 0, .slice none 0 0] 64 := by rw [← hw]; exact x4.nine_far (by omega)
            obtain ⟨d0, d1, d2, d3, d4, d5, d6, d7, d8⟩ := nine_cells y4
            obtain ⟨f0, f1, f2, f3, f4, f5, f6, f7, f8⟩ := nine_free y4
            refine wpAny_go 26 255 [8] 511 0 (by kernel_rfl) (by kernel_rfl) (fun _ _ _ _ _ h => h) (by kernel_rfl) (by rfl) (by rfl) (by kernel_rfl) ?_
            simp only [List.map_cons, List.map_nil, List.getD_cons_succ, List.getD_cons_zero]
            go_wp2_with fail
            change wpAnyM _ _ _ _ _ _ _ _ _ _
            clear d0 d1 d2 d3 d4 d5 d6 d7 d8
            clear f0 f1 f2 f3 f4 f5 f6 f7 f8
            subst hw
            refine wpAny_endM (by kernel_rfl) (by kernel_rfl) ?_
            go_wp2_with fail
            go_meet
            have z1 := ha.2
            exact Sides7.of x3 x4 ha hd (by omega) (by omega) (by omega) (by omega) (by omega) (by omega) (by omega) (by omega) (by omega) hV
          ·
            simp only [List.getD_cons_succ, List.getD_cons_zero]
            go_wp2_with fail
            refine ⟨fun h => absurd h (by decide), name_any fun u4 hw => ?_⟩
            have x4 : Box u4 u3.heap.size #[.int .i64 0, .int .i64 0, .int .i64 0, .int .i64 0, .slice none 0 0, .int .i64 0, .int .i64 0, .int .i64 0, .slice none 0 0] 64 := hw ▸ Box.new _ _ _
            have hh : Below u3.heap.size u3 u4 := hw ▸ ((Below.refl _ _).alloc (Nat.le_refl _) _)
            have s4 : u3.heap.size < u4.heap.size := hw ▸ (by simp)
            clear hw
            replace hp0 := hp0.next hh
            replace ha := ha.next hh
            replace hc := hc.next hh
            replace x3 := x3.next hh
            replace hE := hE.trans (Ext.below hh (Nat.le_refl _))
            replace hV := hV.trans (hh.mono hV.size)
            clear hh
            refine wpAny_oneM 4 127 (by kernel_rfl) (by kernel_rfl) (of_decide_eq_true (by kernel_rfl)) (by rfl) ?_
            simp only [List.getD_cons_succ, List.getD_cons_zero]
            go_wp2_with fail
            refine (frrefl_any u1.heap.size u2.heap.size _ P0 _ hc.2 hc.1 (by have h := HS0.out.1; omega)).mono ?_
            rintro e u5 ⟨⟨vd, rfl, hd⟩, hh⟩
            have s5 := hh.size
            replace hp0 := hp0.next hh
            replace ha := ha.next hh
            replace hc := hc.next hh
            replace x3 := x3.next hh
            replace x4 := x4.next hh
            replace hE := hE.trans (Ext.below hh (Nat.le_refl _))
            replace hV := hV.trans (hh.mono hV.size)
            clear hh
            replace hd : FixS u5 (fun b => (u1.heap.size ≤ b ∧ b < u2.heap.size) ∨ (u4.heap.size ≤ b ∧ b < u5.heap.size)) vd P0 := ⟨hd, fun b hb => by omega⟩
            go_wp2_with fail
            refine ⟨fun _ => hE, ?_⟩
            obtain ⟨aA, aB, ak, al, rfl, _, _⟩ := id ha.1
            obtain ⟨dA, dB, dk, dl, rfl, _, _⟩ := id hd.1
            obtain ⟨d0, d1, d2, d3, d4, d5, d6, d7, d8⟩ := nine_cells x3
            obtain ⟨f0, f1, f2, f3, f4, f5, f6, f7, f8⟩ := nine_free x3
            refine wpAny_go 26 127 [7] 255 1 (by kernel_rfl) (by kernel_rfl) (fun _ _ _ _ _ h => h) (by kernel_rfl) (by rfl) (by rfl) (by kernel_rfl) ?_
            simp only [List.map_cons, List.map_nil, List.getD_cons_succ, List.getD_cons_zero]
            go_wp2_with fail
            change wpAnyM _ _ _ _ _ _ _ _ _ _
            clear d0 d1 d2 d3 d4 d5 d6 d7 d8
            clear f0 f1 f2 f3 f4 f5 f6 f7 f8
            refine name_any fun uz hw => ?_
            have y4 : Box uz u3.heap.size #[.int .i64 0, .int .i64 0, .int .i64 0, .int .i64 0, .slice none 0 0, .int .i64 0, .int .i64 0, .int .i64 0, .slice none 0 0] 64 := by rw [← hw]; exact x4.nine_far (by omega)
            obtain ⟨d0, d1, d2, d3, d4, d5, d6, d7, d8⟩ := nine_cells y4
            obtain ⟨f0, f1, f2, f3, f4, f5, f6, f7, f8⟩ := nine_free y4
            refine wpAny_go 26 255 [8] 511 0 (by kernel_rfl) (by kernel_rfl) (fun _ _ _ _ _ h => h) (by kernel_rfl) (by rfl) (by rfl) (by kernel_rfl) ?_
            simp only [List.map_cons, List.map_nil, List.getD_cons_succ, List.getD_cons_zero]
            go_wp2_with fail
            change wpAnyM _ _ _ _ _ _ _ _ _ _
            clear d0 d1 d2 d3 d4 d5 d6 d7 d8
            clear f0 f1 f2 f3 f4 f5 f6 f7 f8
            subst hw
            refine wpAny_endM (by kernel_rfl) (by kernel_rfl) ?_
            go_wp2_with fail
            go_meet
            have z1 := ha.2
            exact Sides7.of x3 x4 ha hd (by omega) (by omega) (by omega) (by omega) (by omega) (by omega) (by omega) (by omega) (by omega) hV
        ·
          simp only [List.getD_cons_succ, List.getD_cons_zero]
          go_wp2_with fail
          refine ⟨fun h => absurd h (by decide), name_any fun u3 hw => ?_⟩
          have x4 : Box u3 u2.heap.size #[.int .i64 0, .int .i64 0, .int .i64 0, .int .i64 0, .slice none 0 0, .int .i64 0, .int .i64 0, .int .i64 0, .slice none 0 0] 64 := hw ▸ Box.new _ _ _
          have hh : Below u2.heap.size u2 u3 := hw ▸ ((Below.refl _ _).alloc (Nat.le_refl _) _)
          have s3 : u2.heap.size < u3.heap.size := hw ▸ (by simp)
          clear hw
          replace hp0 := hp0.next hh
          replace ha := ha.next hh
          replace hc := hc.next hh
          replace hE := hE.trans (Ext.below hh (Nat.le_refl _))
          replace hV := hV.trans (hh.mono hV.size)
          clear hh
          refine wpAny_twoM 4 5 95 111 (by kernel_rfl) (by kernel_rfl) (of_decide_eq_true (by kernel_rfl)) (of_decide_eq_true (by kernel_rfl)) (by rfl) (by rfl) ?_ ?_
          ·
            simp only [List.getD_cons_succ, List.getD_cons_zero]
            go_wp2_with fail
            refine (frrefl_any u1.heap.size u2.heap.size _ P0 _ hc.2 hc.1 (by have h := HS0.out.1; omega)).mono ?_
            rintro e u4 ⟨⟨vd, rfl, hd⟩, hh⟩
            have s4 := hh.size
            replace hp0 := hp0.next hh
            replace ha := ha.next hh
            replace hc := hc.next hh
            replace x4 := x4.next hh
            replace hE := hE.trans (Ext.below hh (Nat.le_refl _))
            replace hV := hV.trans (hh.mono hV.size)
            clear hh
            replace hd : FixS u4 (fun b => (u1.heap.size ≤ b ∧ b < u2.heap.size) ∨ (u3.heap.size ≤ b ∧ b < u4.heap.size)) vd P0 := ⟨hd, fun b hb => by omega⟩
            go_wp2_with fail
            refine ⟨fun _ => hE, ?_⟩
            refine wpAny_oneM 5 127 (by kernel_rfl) (by kernel_rfl) (of_decide_eq_true (by kernel_rfl)) (by rfl) ?_
            simp only [List.getD_cons_succ, List.getD_cons_zero]
            go_wp2_with fail
            refine ⟨fun h => absurd h (by decide), name_any fun u5 hw => ?_⟩
            have x3 : Box u5 u4.heap.size #[.int .i64 0, .int .i64 0, .int .i64 0, .int .i64 0, .slice none 0 0, .int .i64 0, .int .i64 0, .int .i64 0, .slice none 0 0] 58 := hw ▸ Box.new _ _ _
            have hh : Below u4.heap.size u4 u5 := hw ▸ ((Below.refl _ _).alloc (Nat.le_refl _) _)
            have s5 : u4.heap.size < u5.heap.size := hw ▸ (by simp)
            clear hw
            replace hp0 := hp0.next hh
            replace ha := ha.next hh
            replace hc := hc.next hh
            replace x4 := x4.next hh
            replace hd := hd.next hh
            replace hE := hE.trans (Ext.below hh (Nat.le_refl _))
            replace hV := hV.trans (hh.mono hV.size)
            clear hh
            obtain ⟨aA, aB, ak, al, rfl, _, _⟩ := id ha.1
            obtain ⟨dA, dB, dk, dl, rfl, _, _⟩ := id hd.1
            obtain ⟨d0, d1, d2, d3, d4, d5, d6, d7, d8⟩ := nine_cells x3
            obtain ⟨f0, f1, f2, f3, f4, f5, f6, f7, f8⟩ := nine_free x3
            refine wpAny_go 26 127 [7] 255 1 (by kernel_rfl) (by kernel_rfl) (fun _ _ _ _ _ h => h) (by kernel_rfl) (by rfl) (by rfl) (by kernel_rfl) ?_
            simp only [List.map_cons, List.map_nil, List.getD_cons_succ, List.getD_cons_zero]
            go_wp2_with fail
            change wpAnyM _ _ _ _ _ _ _ _ _ _
            clear d0 d1 d2 d3 d4 d5 d6 d7 d8
            clear f0 f1 f2 f3 f4 f5 f6 f7 f8
            refine name_any fun uz hw => ?_
            have y4 : Box uz u2.heap.size #[.int .i64 0, .int .i64 0, .int .i64 0, .int .i64 0, .slice none 0 0, .int .i64 0, .int .i64 0, .int .i64 0, .slice none 0 0] 64 := by rw [← hw]; exact x4.nine_far (by omega)
            obtain ⟨d0, d1, d2, d3, d4, d5, d6, d7, d8⟩ := nine_cells y4
            obtain ⟨f0, f1, f2, f3, f4, f5, f6, f7, f8⟩ := nine_free y4
            refine wpAny_go 26 255 [8] 511 0 (by kernel_rfl) (by kernel_rfl) (fun _ _ _ _ _ h => h) (by kernel_rfl) (by rfl) (by rfl) (by kernel_rfl) ?_
            simp only [List.map_cons, List.map_nil, List.getD_cons_succ, List.getD_cons_zero]
            go_wp2_with fail
            change wpAnyM _ _ _ _ _ _ _ _ _ _
            clear d0 d1 d2 d3 d4 d5 d6 d7 d8
            clear f0 f1 f2 f3 f4 f5 f6 f7 f8
            subst hw
            refine wpAny_endM (by kernel_rfl) (by kernel_rfl) ?_
            go_wp2_with fail
            go_meet
            have z1 := ha.2
            exact Sides7.of x3 x4 ha hd (by omega) (by omega) (by omega) (by omega) (by omega) (by omega) (by omega) (by omega) (by omega) hV
          ·
            simp only [List.getD_cons_succ, List.getD_cons_zero]
            go_wp2_with fail
            refine ⟨fun h => absurd h (by decide), name_any fun u4 hw => ?_⟩
            have x3 : Box u4 u3.heap.size #[.int .i64 0, .int .i64 0, .int .i64 0, .int .i64 0, .slice none 0 0, .int .i64 0, .int .i64 0, .int .i64 0, .slice none 0 0] 58 := hw ▸ Box.new _ _ _
            have hh : Below u3.heap.size u3 u4 := hw ▸ ((Below.refl _ _).alloc (Nat.le_refl _) _)
            have s4 : u3.heap.size < u4.heap.size := hw ▸ (by simp)
            clear hw
            replace hp0 := hp0.next hh
            replace ha := ha.next hh
            replace hc := hc.next hh
            replace x4 := x4.next hh
            replace hE := hE.trans (Ext.below hh (Nat.le_refl _))
            replace hV := hV.trans (hh.mono hV.size)
            clear hh
            refine wpAny_oneM 4 127 (by kernel_rfl) (by kernel_rfl) (of_decide_eq_true (by kernel_rfl)) (by rfl) ?_
            simp only [List.getD_cons_succ, List.getD_cons_zero]
            go_wp2_with fail
            refine (frrefl_any u1.heap.size u2.heap.size _ P0 _ hc.2 hc.1 (by have h := HS0.out.1; omega)).mono ?_
            rintro e u5 ⟨⟨vd, rfl, hd⟩, hh⟩
            have s5 := hh.size
            replace hp0 := hp0.next hh
            replace ha := ha.next hh
            replace hc := hc.next hh
            replace x4 := x4.next hh
            replace x3 := x3.next hh
            replace hE := hE.trans (Ext.below hh (Nat.le_refl _))
            replace hV := hV.trans (hh.mono hV.size)
            clear hh
            replace hd : FixS u5 (fun b => (u1.heap.size ≤ b ∧ b < u2.heap.size) ∨ (u4.heap.size ≤ b ∧ b < u5.heap.size)) vd P0 := ⟨hd, fun b hb => by omega⟩
            go_wp2_with fail
            refine ⟨fun _ => hE, ?_⟩
            obtain ⟨aA, aB, ak, al, rfl, _, _⟩ := id ha.1
            obtain ⟨dA, dB, dk, dl, rfl, _, _⟩ := id hd.1
            obtain ⟨d0, d1, d2, d3, d4, d5, d6, d7, d8⟩ := nine_cells x3
            obtain ⟨f0, f1, f2, f3, f4, f5, f6, f7, f8⟩ := nine_free x3
            refine wpAny_go 26 127 [7] 255 1 (by kernel_rfl) (by kernel_rfl) (fun _ _ _ _ _ h => h) (by kernel_rfl) (by rfl) (by rfl) (by kernel_rfl) ?_
            simp only [List.map_cons, List.map_nil, List.getD_cons_succ, List.getD_cons_zero]
            go_wp2_with fail
            change wpAnyM _ _ _ _ _ _ _ _ _ _
            clear d0 d1 d2 d3 d4 d5 d6 d7 d8
            clear f0 f1 f2 f3 f4 f5 f6 f7 f8
            refine name_any fun uz hw => ?_
            have y4 : Box uz u2.heap.size #[.int .i64 0, .int .i64 0, .int .i64 0, .int .i64 0, .slice none 0 0, .int .i64 0, .int .i64 0, .int .i64 0, .slice none 0 0] 64 := by rw [← hw]; exact x4.nine_far (by omega)
            obtain ⟨d0, d1, d2, d3, d4, d5, d6, d7, d8⟩ := nine_cells y4
            obtain ⟨f0, f1, f2, f3, f4, f5, f6, f7, f8⟩ := nine_free y4
            refine wpAny_go 26 255 [8] 511 0 (by kernel_rfl) (by kernel_rfl) (fun _ _ _ _ _ h => h) (by kernel_rfl) (by rfl) (by rfl) (by kernel_rfl) ?_
            simp only [List.map_cons, List.map_nil, List.getD_cons_succ, List.getD_cons_zero]
            go_wp2_with fail
            change wpAnyM _ _ _ _ _ _ _ _ _ _
            clear d0 d1 d2 d3 d4 d5 d6 d7 d8
            clear f0 f1 f2 f3 f4 f5 f6 f7 f8
            subst hw
            refine wpAny_endM (by kernel_rfl) (by kernel_rfl) ?_
            go_wp2_with fail
            go_meet
            have z1 := ha.2
            exact Sides7.of x3 x4 ha hd (by omega) (by omega) (by omega) (by omega) (by omega) (by omega) (by omega) (by omega) (by omega) hV
      ·
        simp only [List.getD_cons_succ, List.getD_cons_zero]
        go_wp2_with fail
        refine ⟨fun h => absurd h (by decide), name_any fun u2 hw => ?_⟩
        have x3 : Box u2 u1.heap.size #[.int .i64 0, .int .i64 0, .int .i64 0, .int .i64 0, .slice none 0 0, .int .i64 0, .int .i64 0, .int .i64 0, .slice none 0 0] 58 := hw ▸ Box.new _ _ _
        have hh : Below u1.heap.size u1 u2 := hw ▸ ((Below.refl _ _).alloc (Nat.le_refl _) _)
        have s2 : u1.heap.size < u2.heap.size := hw ▸ (by simp)
        clear hw
        replace hp0 := hp0.next hh
        replace ha := ha.next hh
        replace hE := hE.trans (Ext.below hh (Nat.le_refl _))
        replace hV := hV.trans (hh.mono hV.size)
        clear hh
        refine wpAny_twoM 3 6 47 103 (by kernel_rfl) (by kernel_rfl) (of_decide_eq_true (by kernel_rfl)) (of_decide_eq_true (by kernel_rfl)) (by rfl) (by rfl) ?_ ?_
        ·
          simp only [List.getD_cons_succ, List.getD_cons_zero]
          go_wp2_with fail
          refine (frcut_any _ P0 _ hp0).mono ?_
          rw [HCC.out]
          rintro e u3 ⟨⟨vc, rfl, hc⟩, hh⟩
          have s3 := hh.size
          replace hp0 := hp0.next hh
          replace ha := ha.next hh
          replace x3 := x3.next hh
          replace hE := hE.trans (Ext.below hh (Nat.le_refl _))
          replace hV := hV.trans (hh.mono hV.size)
          clear hh
          replace hc : FixF false u3 u2.heap.size u3.heap.size vc P0 := ⟨hc, Nat.le_refl _⟩
          go_wp2_with fail
          refine ⟨fun _ => hE, ?_⟩
          refine wpAny_twoM 4 6 63 111 (by kernel_rfl) (by kernel_rfl) (of_decide_eq_true (by kernel_rfl)) (of_decide_eq_true (by kernel_rfl)) (by rfl) (by rfl) ?_ ?_
          ·
            simp only [List.getD_cons_succ, List.getD_cons_zero]
            go_wp2_with fail
            refine (frrefl_any u2.heap.size u3.heap.size _ P0 _ hc.2 hc.1 (by have h := HS0.out.1; omega)).mono ?_
            rintro e u4 ⟨⟨vd, rfl, hd⟩, hh⟩
            have s4 := hh.size
            replace hp0 := hp0.next hh
            replace ha := ha.next hh
            replace x3 := x3.next hh
            replace hc := hc.next hh
            replace hE := hE.trans (Ext.below hh (Nat.le_refl _))
            replace hV := hV.trans (hh.mono hV.size)
            clear hh
            replace hd : FixS u4 (fun b => (u2.heap.size ≤ b ∧ b < u3.heap.size) ∨ (u3.heap.size ≤ b ∧ b < u4.heap.size)) vd P0 := ⟨hd, fun b hb => by omega⟩
            go_wp2_with fail
            refine ⟨fun _ => hE, ?_⟩
            refine wpAny_oneM 6 127 (by kernel_rfl) (by kernel_rfl) (of_decide_eq_true (by kernel_rfl)) (by rfl) ?_
            simp only [List.getD_cons_succ, List.getD_cons_zero]
            go_wp2_with fail
            refine ⟨fun h => absurd h (by decide), name_any fun u5 hw => ?_⟩
            have x4 : Box u5 u4.heap.size #[.int .i64 0, .int .i64 0, .int .i64 0, .int .i64 0, .slice none 0 0, .int .i64 0, .int .i64 0, .int .i64 0, .slice none 0 0] 64 := hw ▸ Box.new _ _ _
            have hh : Below u4.heap.size u4 u5 := hw ▸ ((Below.refl _ _).alloc (Nat.le_refl _) _)
            have s5 : u4.heap.size < u5.heap.size := hw ▸ (by simp)
            clear hw
            replace hp0 := hp0.next hh
            replace ha := ha.next hh
            replace x3 := x3.next hh
            replace hc := hc.next hh
            replace hd := hd.next hh
            replace hE := hE.trans (Ext.below hh (Nat.le_refl _))
            replace hV := hV.trans (hh.mono hV.size)
            clear hh
            obtain ⟨aA, aB, ak, al, rfl, _, _⟩ := id ha.1
            obtain ⟨dA, dB, dk, dl, rfl, _, _⟩ := id hd.1
            obtain ⟨d0, d1, d2, d3, d4, d5, d6, d7, d8⟩ := nine_cells x3
            obtain ⟨f0, f1, f2, f3, f4, f5, f6, f7, f8⟩ := nine_free x3
            refine wpAny_go 26 127 [7] 255 1 (by kernel_rfl) (by kernel_rfl) (fun _ _ _ _ _ h => h) (by kernel_rfl) (by rfl) (by rfl) (by kernel_rfl) ?_
            simp only [List.map_cons, List.map_nil, List.getD_cons_succ, List.getD_cons_zero]
            go_wp2_with fail
            change wpAnyM _ _ _ _ _ _ _ _ _ _
            clear d0 d1 d2 d3 d4 d5 d6 d7 d8
            clear f0 f1 f2 f3 f4 f5 f6 f7 f8
            refine name_any fun uz hw => ?_
            have y4 : Box uz u4.heap.size #[.int .i64 0, .int .i64 0, .int .i64 0, .int .i64 0, .slice none 0 0, .int .i64 0, .int .i64 0, .int .i64 0, .slice none 0 0] 64 := by rw [← hw]; exact x4.nine_far (by omega)
            obtain ⟨d0, d1, d2, d3, d4, d5, d6, d7, d8⟩ := nine_cells y4
            obtain ⟨f0, f1, f2, f3, f4, f5, f6, f7, f8⟩ := nine_free y4
            refine wpAny_go 26 255 [8] 511 0 (by kernel_rfl) (by kernel_rfl) (fun _ _ _ _ _ h => h) (by kernel_rfl) (by rfl) (by rfl) (by kernel_rfl) ?_
            simp only [List.map_cons, List.map_nil, List.getD_cons_succ, List.getD_cons_zero]
            go_wp2_with fail
            change wpAnyM _ _ _ _ _ _ _ _ _ _
            clear d0 d1 d2 d3 d4 d5 d6 d7 d8
            clear f0 f1 f2 f3 f4 f5 f6 f7 f8
            subst hw
            refine wpAny_endM (by kernel_rfl) (by kernel_rfl) ?_
            go_wp2_with fail
            go_meet
            have z1 := ha.2
            exact Sides7.of x3 x4 ha hd (by omega) (by omega) (by omega) (by omega) (by omega) (by omega) (by omega) (by omega) (by omega) hV
          ·
            simp only [List.getD_cons_succ, List.getD_cons_zero]
            go_wp2_with fail
            refine ⟨fun h => absurd h (by decide), name_any fun u4 hw => ?_⟩
            have x4 : Box u4 u3.heap.size #[.int .i64 0, .int .i64 0, .int .i64 0, .int .i64 0, .slice none 0 0, .int .i64 0, .int .i64 0, .int .i64 0, .slice none 0 0] 64 := hw ▸ Box.new _ _ _
            have hh : Below u3.heap.size u3 u4 := hw ▸ ((Below.refl _ _).alloc (Nat.le_refl _) _)
            have s4 : u3.heap.size < u4.heap.size := hw ▸ (by simp)
            clear hw
            replace hp0 := hp0.next hh
            replace ha := ha.next hh
            replace x3 := x3.next hh
            replace hc := hc.next hh
            replace hE := hE.trans (Ext.below hh (Nat.le_refl _))
            replace hV := hV.trans (hh.mono hV.size)
            clear hh
            refine wpAny_oneM 4 127 (by kernel_rfl) (by kernel_rfl) (of_decide_eq_true (by kernel_rfl)) (by rfl) ?_
            simp only [List.getD_cons_succ, List.getD_cons_zero]
            go_wp2_with fail
            refine (frrefl_any u2.heap.size u3.heap.size _ P0 _ hc.2 hc.1 (by have h := HS0.out.1; omega)).mono ?_
            rintro e u5 ⟨⟨vd, rfl, hd⟩, hh⟩
            have s5 := hh.size
            replace hp0 := hp0.next hh
            replace ha := ha.next hh
            replace x3 := x3.next hh
            replace hc := hc.next hh
            replace x4 := x4.next hh
            replace hE := hE.trans (Ext.below hh (Nat.le_refl _))
            replace hV := hV.trans (hh.mono hV.size)
            clear hh
            replace hd : FixS u5 (fun b => (u2.heap.size ≤ b ∧ b < u3.heap.size) ∨ (u4.heap.size ≤ b ∧ b < u5.heap.size)) vd P0 := ⟨hd, fun b hb => by omega⟩
            go_wp2_with fail
            refine ⟨fun _ => hE, ?_⟩
            obtain ⟨aA, aB, ak, al, rfl, _, _⟩ := id ha.1
            obtain ⟨dA, dB, dk, dl, rfl, _, _⟩ := id hd.1
            obtain ⟨d0, d1, d2, d3, d4, d5, d6, d7, d8⟩ := nine_cells x3
            obtain ⟨f0, f1, f2, f3, f4, f5, f6, f7, f8⟩ := nine_free x3
            refine wpAny_go 26 127 [7] 255 1 (by kernel_rfl) (by kernel_rfl) (fun _ _ _ _ _ h => h) (by kernel_rfl) (by rfl) (by rfl) (by kernel_rfl) ?_
            simp only [List.map_cons, List.map_nil, List.getD_cons_succ, List.getD_cons_zero]
            go_wp2_with fail
            change wpAnyM _ _ _ _ _ _ _ _ _ _
            clear d0 d1 d2 d3 d4 d5 d6 d7 d8
            clear f0 f1 f2 f3 f4 f5 f6 f7 f8
            refine name_any fun uz hw => ?_
            have y4 : Box uz u3.heap.size #[.int .i64 0, .int .i64 0, .int .i64 0, .int .i64 0, .slice none 0 0, .int .i64 0, .int .i64 0, .int .i64 0, .slice none 0 0] 64 := by rw [← hw]; exact x4.nine_far (by omega)
            obtain ⟨d0, d1, d2, d3, d4, d5, d6, d7, d8⟩ := nine_cells y4
            obtain ⟨f0, f1, f2, f3, f4, f5, f6, f7, f8⟩ := nine_free y4
            refine wpAny_go 26 255 [8] 511 0 (by kernel_rfl) (by kernel_rfl) (fun _ _ _ _ _ h => h) (by kernel_rfl) (by rfl) (by rfl) (by kernel_rfl) ?_
            simp only [List.map_cons, List.map_nil, List.getD_cons_succ, List.getD_cons_zero]
            go_wp2_with fail
            change wpAnyM _ _ _ _ _ _ _ _ _ _
            clear d0 d1 d2 d3 d4 d5 d6 d7 d8
            clear f0 f1 f2 f3 f4 f5 f6 f7 f8
            subst hw
            refine wpAny_endM (by kernel_rfl) (by kernel_rfl) ?_
            go_wp2_with fail
            go_meet
            have z1 := ha.2
            exact Sides7.of x3 x4 ha hd (by omega) (by omega) (by omega) (by omega) (by omega) (by omega) (by omega) (by omega) (by omega) hV
        ·
          simp only [List.getD_cons_succ, List.getD_cons_zero]
          go_wp2_with fail
          refine ⟨fun h => absurd h (by decide), name_any fun u3 hw => ?_⟩
          have x4 : Box u3 u2.heap.size #[.int .i64 0, .int .i64 0, .int .i64 0, .int .i64 0, .slice none 0 0, .int .i64 0, .int .i64 0, .int .i64 0, .slice none 0 0] 64 := hw ▸ Box.new _ _ _
          have hh : Below u2.heap.size u2 u3 := hw ▸ ((Below.refl _ _).alloc (Nat.le_refl _) _)
          have s3 : u2.heap.size < u3.heap.size := hw ▸ (by simp)
          clear hw
          replace hp0 := hp0.next hh
          replace ha := ha.next hh
          replace x3 := x3.next hh
          replace hE := hE.trans (Ext.below hh (Nat.le_refl _))
          replace hV := hV.trans (hh.mono hV.size)
          clear hh
          refine wpAny_oneM 3 111 (by kernel_rfl) (by kernel_rfl) (of_decide_eq_true (by kernel_rfl)) (by rfl) ?_
          simp only [List.getD_cons_succ, List.getD_cons_zero]
          go_wp2_with fail
          refine (frcut_any _ P0 _ hp0).mono ?_
          rw [HCC.out]
          rintro e u4 ⟨⟨vc, rfl, hc⟩, hh⟩
          have s4 := hh.size
          replace hp0 := hp0.next hh
          replace ha := ha.next hh
          replace x3 := x3.next hh
          replace x4 := x4.next hh
          replace hE := hE.trans (Ext.below hh (Nat.le_refl _))
          replace hV := hV.trans (hh.mono hV.size)
          clear hh
          replace hc : FixF false u4 u3.heap.size u4.heap.size vc P0 := ⟨hc, Nat.le_refl _⟩
          go_wp2_with fail
          refine ⟨fun _ => hE, ?_⟩
          refine wpAny_oneM 4 127 (by kernel_rfl) (by kernel_rfl) (of_decide_eq_true (by kernel_rfl)) (by rfl) ?_
          simp only [List.getD_cons_succ, List.getD_cons_zero]
          go_wp2_with fail
          refine (frrefl_any u3.heap.size u4.heap.size _ P0 _ hc.2 hc.1 (by have h := HS0.out.1; omega)).mono ?_
          rintro e u5 ⟨⟨vd, rfl, hd⟩, hh⟩
          have s5 := hh.size
          replace hp0 := hp0.next hh
          replace ha := ha.next hh
          replace x3 := x3.next hh
          replace x4 := x4.next hh
          replace hc := hc.next hh
          replace hE := hE.trans (Ext.below hh (Nat.le_refl _))
          replace hV := hV.trans (hh.mono hV.size)
          clear hh
          replace hd : FixS u5 (fun b => (u3.heap.size ≤ b ∧ b < u4.heap.size) ∨ (u4.heap.size ≤ b ∧ b < u5.heap.size)) vd P0 := ⟨hd, fun b hb => by omega⟩
          go_wp2_with fail
          refine ⟨fun _ => hE, ?_⟩
          obtain ⟨aA, aB, ak, al, rfl, _, _⟩ := id ha.1
          obtain ⟨dA, dB, dk, dl, rfl, _, _⟩ := id hd.1
          obtain ⟨d0, d1, d2, d3, d4, d5, d6, d7, d8⟩ := nine_cells x3
          obtain ⟨f0, f1, f2, f3, f4, f5, f6, f7, f8⟩ := nine_free x3
          refine wpAny_go 26 127 [7] 255 1 (by kernel_rfl) (by kernel_rfl) (fun _ _ _ _ _ h => h) (by kernel_rfl) (by rfl) (by rfl) (by kernel_rfl) ?_
          simp only [List.map_cons, List.map_nil, List.getD_cons_succ, List.getD_cons_zero]
          go_wp2_with fail
          change wpAnyM _ _ _ _ _ _ _ _ _ _
          clear d0 d1 d2 d3 d4 d5 d6 d7 d8
          clear f0 f1 f2 f3 f4 f5 f6 f7 f8
          refine name_any fun uz hw => ?_
          have y4 : Box uz u2.heap.size #[.int .i64 0, .int .i64 0, .int .i64 0, .int .i64 0, .slice none 0 0, .int .i64 0, .int .i64 0, .int .i64 0, .slice none 0 0] 64 := by rw [← hw]; exact x4.nine_far (by omega)
          obtain ⟨d0, d1, d2, d3, d4, d5, d6, d7, d8⟩ := nine_cells y4
          obtain ⟨f0, f1, f2, f3, f4, f5, f6, f7, f8⟩ := nine_free y4
          refine wpAny_go 26 255 [8] 511 0 (by kernel_rfl) (by kernel_rfl) (fun _ _ _ _ _ h => h) (by kernel_rfl) (by rfl) (by rfl) (by kernel_rfl) ?_
          simp only [List.map_cons, List.map_nil, List.getD_cons_succ, List.getD_cons_zero]
          go_wp2_with fail
          change wpAnyM _ _ _ _ _ _ _ _ _ _
          clear d0 d1 d2 d3 d4 d5 d6 d7 d8
          clear f0 f1 f2 f3 f4 f5 f6 f7 f8
          subst hw
          refine wpAny_endM (by kernel_rfl) (by kernel_rfl) ?_
          go_wp2_with fail
          go_meet
          have z1 := ha.2
          exact Sides7.of x3 x4 ha hd (by omega) (by omega) (by omega) (by omega) (by omega) (by omega) (by omega) (by omega) (by omega) hV
      ·
        simp only [List.getD_cons_succ, List.getD_cons_zero]
        go_wp2_with fail
        refine ⟨fun h => absurd h (by decide), name_any fun u2 hw => ?_⟩
        have x4 : Box u2 u1.heap.size #[.int .i64 0, .int .i64 0, .int .i64 0, .int .i64 0, .slice none 0 0, .int .i64 0, .int .i64 0, .int .i64 0, .slice none 0 0] 64 := hw ▸ Box.new _ _ _
        have hh : Below u1.heap.size u1 u2 := hw ▸ ((Below.refl _ _).alloc (Nat.le_refl _) _)
        have s2 : u1.heap.size < u2.heap.size := hw ▸ (by simp)
        clear hw
        replace hp0 := hp0.next hh
        replace ha := ha.next hh
        replace hE := hE.trans (Ext.below hh (Nat.le_refl _))
        replace hV := hV.trans (hh.mono hV.size)
        clear hh
        refine wpAny_twoM 3 5 79 103 (by kernel_rfl) (by kernel_rfl) (of_decide_eq_true (by kernel_rfl)) (of_decide_eq_true (by kernel_rfl)) (by rfl) (by rfl) ?_ ?_
        ·
          simp only [List.getD_cons_succ, List.getD_cons_zero]
          go_wp2_with fail
          refine (frcut_any _ P0 _ hp0).mono ?_
          rw [HCC.out]
          rintro e u3 ⟨⟨vc, rfl, hc⟩, hh⟩
          have s3 := hh.size
          replace hp0 := hp0.next hh
          replace ha := ha.next hh
          replace x4 := x4.next hh
          replace hE := hE.trans (Ext.below hh (Nat.le_refl _))
          replace hV := hV.trans (hh.mono hV.size)
          clear hh
          replace hc : FixF false u3 u2.heap.size u3.heap.size vc P0 := ⟨hc, Nat.le_refl _⟩
          go_wp2_with fail
          refine ⟨fun _ => hE, ?_⟩
          refine wpAny_twoM 4 5 95 111 (by kernel_rfl) (by kernel_rfl) (of_decide_eq_true (by kernel_rfl)) (of_decide_eq_true (by kernel_rfl)) (by rfl) (by rfl) ?_ ?_
          ·
            simp only [List.getD_cons_succ, List.getD_cons_zero]
            go_wp2_with fail
            refine (frrefl_any u2.heap.size u3.heap.size _ P0 _ hc.2 hc.1 (by have h := HS0.out.1; omega)).mono ?_
            rintro e u4 ⟨⟨vd, rfl, hd⟩, hh⟩
            have s4 := hh.size
            replace hp0 := hp0.next hh
            replace ha := ha.next hh
            replace x4 := x4.next hh
            replace hc := hc.next hh
            replace hE := hE.trans (Ext.below hh (Nat.le_refl _))
            replace hV := hV.trans (hh.mono hV.size)
            clear hh
            replace hd : FixS u4 (fun b => (u2.heap.size ≤ b ∧ b < u3.heap.size) ∨ (u3.heap.size ≤ b ∧ b < u4.heap.size)) vd P0 := ⟨hd, fun b hb => by omega⟩
            go_wp2_with fail
            refine ⟨fun _ => hE, ?_⟩
            refine wpAny_oneM 5 127 (by kernel_rfl) (by kernel_rfl) (of_decide_eq_true (by kernel_rfl)) (by rfl) ?_
            simp only [List.getD_cons_succ, List.getD_cons_zero]
            go_wp2_with fail
            refine ⟨fun h => absurd h (by decide), name_any fun u5 hw => ?_⟩
            have x3 : Box u5 u4.heap.size #[.int .i64 0, .int .i64 0, .int .i64 0, .int .i64 0, .slice none 0 0, .int .i64 0, .int .i64 0, .int .i64 0, .slice none 0 0] 58 := hw ▸ Box.new _ _ _
            have hh : Below u4.heap.size u4 u5 := hw ▸ ((Below.refl _ _).alloc (Nat.le_refl _) _)
            have s5 : u4.heap.size < u5.heap.size := hw ▸ (by simp)
            clear hw
            replace hp0 := hp0.next hh
            replace ha := ha.next hh
            replace x4 := x4.next hh
            replace hc := hc.next hh
            replace hd := hd.next hh
            replace hE := hE.trans (Ext.below hh (Nat.le_refl _))
            replace hV := hV.trans (hh.mono hV.size)
            clear hh
            obtain ⟨aA, aB, ak, al, rfl, _, _⟩ := id ha.1
            obtain ⟨dA, dB, dk, dl, rfl, _, _⟩ := id hd.1
            obtain ⟨d0, d1, d2, d3, d4, d5, d6, d7, d8⟩ := nine_cells x3
            obtain ⟨f0, f1, f2, f3, f4, f5, f6, f7, f8⟩ := nine_free x3
            refine wpAny_go 26 127 [7] 255 1 (by kernel_rfl) (by kernel_rfl) (fun _ _ _ _ _ h => h) (by kernel_rfl) (by rfl) (by rfl) (by kernel_rfl) ?_
            simp only [List.map_cons, List.map_nil, List.getD_cons_succ, List.getD_cons_zero]
            go_wp2_with fail
            change wpAnyM _ _ _ _ _ _ _ _ _ _
            clear d0 d1 d2 d3 d4 d5 d6 d7 d8
            clear f0 f1 f2 f3 f4 f5 f6 f7 f8
            refine name_any fun uz hw => ?_
            have y4 : Box uz u1.heap.size #[.int .i64 0, .int .i64 0, .int .i64 0, .int .i64 0, .slice none 0 0, .int .i64 0, .int .i64 0, .int .i64 0, .slice none 0 0] 64 := by rw [← hw]; exact x4.nine_far (by omega)
            obtain ⟨d0, d1, d2, d3, d4, d5, d6, d7, d8⟩ := nine_cells y4
            obtain ⟨f0, f1, f2, f3, f4, f5, f6, f7, f8⟩ := nine_free y4
            refine wpAny_go 26 255 [8] 511 0 (by kernel_rfl) (by kernel_rfl) (fun _ _ _ _ _ h => h) (by kernel_rfl) (by rfl) (by rfl) (by kernel_rfl) ?_
            simp only [List.map_cons, List.map_nil, List.getD_cons_succ, List.getD_cons_zero]
            go_wp2_with fail
            change wpAnyM _ _ _ _ _ _ _ _ _ _
            clear d0 d1 d2 d3 d4 d5 d6 d7 d8
            clear f0 f1 f2 f3 f4 f5 f6 f7 f8
            subst hw
            refine wpAny_endM (by kernel_rfl) (by kernel_rfl) ?_
            go_wp2_with fail
            go_meet
            have z1 := ha.2
            exact Sides7.of x3 x4 ha hd (by omega) (by omega) (by omega) (by omega) (by omega) (by omega) (by omega) (by omega) (by omega) hV
          ·
            simp only [List.getD_cons_succ, List.getD_cons_zero]
            go_wp2_with fail
            refine ⟨fun h => absurd h (by decide), name_any fun u4 hw => ?_⟩
            have x3 : Box u4 u3.heap.size #[.int .i64 0, .int .i64 0, .int .i64 0, .int .i64 0, .slice none 0 0, .int .i64 0, .int .i64 0, .int .i64 0, .slice none 0 0] 58 := hw ▸ Box.new _ _ _
            have hh : Below u3.heap.size u3 u4 := hw ▸ ((Below.refl _ _).alloc (Nat.le_refl _) _)
            have s4 : u3.heap.size < u4.heap.size := hw ▸ (by simp)
            clear hw
            replace hp0 := hp0.next hh
            replace ha := ha.next hh
            replace x4 := x4.next hh
            replace hc := hc.next hh
            replace hE := hE.trans (Ext.below hh (Nat.le_refl _))
            replace hV := hV.trans (hh.mono hV.size)
            clear hh
            refine wpAny_oneM 4 127 (by kernel_rfl) (by kernel_rfl) (of_decide_eq_true (by kernel_rfl)) (by rfl) ?_
            simp only [List.getD_cons_succ, List.getD_cons_zero]
            go_wp2_with fail
            refine (frrefl_any u2.heap.size u3.heap.size _ P0 _ hc.2 hc.1 (by have h := HS0.out.1; omega)).mono ?_
            rintro e u5 ⟨⟨vd, rfl, hd⟩, hh⟩
            have s5 := hh.size
            replace hp0 := hp0.next hh
            replace ha := ha.next hh
            replace x4 := x4.next hh
            replace hc := hc.next hh
            replace x3 := x3.next hh
            replace hE := hE.trans (Ext.below hh (Nat.le_refl _))
            replace hV := hV.trans (hh.mono hV.size)
            clear hh
            replace hd : FixS u5 (fun b => (u2.heap.size ≤ b ∧ b < u3.heap.size) ∨ (u4.heap.size ≤ b ∧ b < u5.heap.size)) vd P0 := ⟨hd, fun b hb => by omega⟩
            go_wp2_with fail
            refine ⟨fun _ => hE, ?_⟩
            obtain ⟨aA, aB, ak, al, rfl, _, _⟩ := id ha.1
            obtain ⟨dA, dB, dk, dl, rfl, _, _⟩ := id hd.1
            obtain ⟨d0, d1, d2, d3, d4, d5, d6, d7, d8⟩ := nine_cells x3
            obtain ⟨f0, f1, f2, f3, f4, f5, f6, f7, f8⟩ := nine_free x3
            refine wpAny_go 26 127 [7] 255 1 (by kernel_rfl) (by kernel_rfl) (fun _ _ _ _ _ h => h) (by kernel_rfl) (by rfl) (by rfl) (by kernel_rfl) ?_
            simp only [List.map_cons, List.map_nil, List.getD_cons_succ, List.getD_cons_zero]
            go_wp2_with fail
            change wpAnyM _ _ _ _ _ _ _ _ _ _
            clear d0 d1 d2 d3 d4 d5 d6 d7 d8
            clear f0 f1 f2 f3 f4 f5 f6 f7 f8
            refine name_any fun uz hw => ?_
            have y4 : Box uz u1.heap.size #[.int .i64 0, .int .i64 0, .int .i64 0, .int .i64 0, .slice none 0 0, .int .i64 0, .int .i64 0, .int .i64 0, .slice none 0 0] 64 := by rw [← hw]; exact x4.nine_far (by omega)
            obtain ⟨d0, d1, d2, d3, d4, d5, d6, d7, d8⟩ := nine_cells y4
            obtain ⟨f0, f1, f2, f3, f4, f5, f6, f7, f8⟩ := nine_free y4
            refine wpAny_go 26 255 [8] 511 0 (by kernel_rfl) (by kernel_rfl) (fun _ _ _ _ _ h => h) (by kernel_rfl) (by rfl) (by rfl) (by kernel_rfl) ?_
            simp only [List.map_cons, List.map_nil, List.getD_cons_succ, List.getD_cons_zero]
            go_wp2_with fail
            change wpAnyM _ _ _ _ _ _ _ _ _ _
            clear d0 d1 d2 d3 d4 d5 d6 d7 d8
            clear f0 f1 f2 f3 f4 f5 f6 f7 f8
            subst hw
            refine wpAny_endM (by kernel_rfl) (by kernel_rfl) ?_
            go_wp2_with fail
            go_meet
            have z1 := ha.2
            exact Sides7.of x3 x4 ha hd (by omega) (by omega) (by omega) (by omega) (by omega) (by omega) (by omega) (by omega) (by omega) hV
        ·
          simp only [List.getD_cons_succ, List.getD_cons_zero]
          go_wp2_with fail
          refine ⟨fun h => absurd h (by decide), name_any fun u3 hw => ?_⟩
          have x3 : Box u3 u2.heap.size #[.int .i64 0, .int .i64 0, .int .i64 0, .int .i64 0, .slice none 0 0, .int .i64 0, .int .i64 0, .int .i64 0, .slice none 0 0] 58 := hw ▸ Box.new _ _ _
          have hh : Below u2.heap.size u2 u3 := hw ▸ ((Below.refl _ _).alloc (Nat.le_refl _) _)
          have s3 : u2.heap.size < u3.heap.size := hw ▸ (by simp)
          clear hw
          replace hp0 := hp0.next hh
          replace ha := ha.next hh
          replace x4 := x4.next hh
          replace hE := hE.trans (Ext.below hh (Nat.le_refl _))
          replace hV := hV.trans (hh.mono hV.size)
          clear hh
          refine wpAny_oneM 3 111 (by kernel_rfl) (by kernel_rfl) (of_decide_eq_true (by kernel_rfl)) (by rfl) ?_
          simp only [List.getD_cons_succ, List.getD_cons_zero]
          go_wp2_with fail
          refine (frcut_any _ P0 _ hp0).mono ?_
          rw [HCC.out]
          rintro e u4 ⟨⟨vc, rfl, hc⟩, hh⟩
          have s4 := hh.size
          replace hp0 := hp0.next hh
          replace ha := ha.next hh
          replace x4 := x4.next hh
          replace x3 := x3.next hh
          replace hE := hE.trans (Ext.below hh (Nat.le_refl _))
          replace hV := hV.trans (hh.mono hV.size)
          clear hh
          replace hc : FixF false u4 u3.heap.size u4.heap.size vc P0 := ⟨hc, Nat.le_refl _⟩
          go_wp2_with fail
          refine ⟨fun _ => hE, ?_⟩
          refine wpAny_oneM 4 127 (by kernel_rfl) (by kernel_rfl) (of_decide_eq_true (by kernel_rfl)) (by rfl) ?_
          simp only [List.getD_cons_succ, List.getD_cons_zero]
          go_wp2_with fail
          refine (frrefl_any u3.heap.size u4.heap.size _ P0 _ hc.2 hc.1 (by have h := HS0.out.1; omega)).mono ?_
          rintro e u5 ⟨⟨vd, rfl, hd⟩, hh⟩
          have s5 := hh.size
          replace hp0 := hp0.next hh
          replace ha := ha.next hh
          replace x4 := x4.next hh
          replace x3 := x3.next hh
          replace hc := hc.next hh
          replace hE := hE.trans (Ext.below hh (Nat.le_refl _))
          replace hV := hV.trans (hh.mono hV.size)
          clear hh
          replace hd : FixS u5 (fun b => (u3.heap.size ≤ b ∧ b < u4.heap.size) ∨ (u4.heap.size ≤ b ∧ b < u5.heap.size)) vd P0 := ⟨hd, fun b hb => by omega⟩
          go_wp2_with fail
          refine ⟨fun _ => hE, ?_⟩
          obtain ⟨aA, aB, ak, al, rfl, _, _⟩ := id ha.1
          obtain ⟨dA, dB, dk, dl, rfl, _, _⟩ := id hd.1
          obtain ⟨d0, d1, d2, d3, d4, d5, d6, d7, d8⟩ := nine_cells x3
          obtain ⟨f0, f1, f2, f3, f4, f5, f6, f7, f8⟩ := nine_free x3
          refine wpAny_go 26 127 [7] 255 1 (by kernel_rfl) (by kernel_rfl) (fun _ _ _ _ _ h => h) (by kernel_rfl) (by rfl) (by rfl) (by kernel_rfl) ?_
          simp only [List.map_cons, List.map_nil, List.getD_cons_succ, List.getD_cons_zero]
          go_wp2_with fail
          change wpAnyM _ _ _ _ _ _ _ _ _ _
          clear d0 d1 d2 d3 d4 d5 d6 d7 d8
          clear f0 f1 f2 f3 f4 f5 f6 f7 f8
          refine name_any fun uz hw => ?_
          have y4 : Box uz u1.heap.size #[.int .i64 0, .int .i64 0, .int .i64 0, .int .i64 0, .slice none 0 0, .int .i64 0, .int .i64 0, .int .i64 0, .slice none 0 0] 64 := by rw [← hw]; exact x4.nine_far (by omega)
          obtain ⟨d0, d1, d2, d3, d4, d5, d6, d7, d8⟩ := nine_cells y4
          obtain ⟨f0, f1, f2, f3, f4, f5, f6, f7, f8⟩ := nine_free y4
          refine wpAny_go 26 255 [8] 511 0 (by kernel_rfl) (by kernel_rfl) (fun _ _ _ _ _ h => h) (by kernel_rfl) (by rfl) (by rfl) (by kernel_rfl) ?_
          simp only [List.map_cons, List.map_nil, List.getD_cons_succ, List.getD_cons_zero]
          go_wp2_with fail
          change wpAnyM _ _ _ _ _ _ _ _ _ _
          clear d0 d1 d2 d3 d4 d5 d6 d7 d8
          clear f0 f1 f2 f3 f4 f5 f6 f7 f8
          subst hw
          refine wpAny_endM (by kernel_rfl) (by kernel_rfl) ?_
          go_wp2_with fail
          go_meet
          have z1 := ha.2
          exact Sides7.of x3 x4 ha hd (by omega) (by omega) (by omega) (by omega) (by omega) (by omega) (by omega) (by omega) (by omega) hV
    ·
      simp only [List.getD_cons_succ, List.getD_cons_zero]
      go_wp2_with fail
      refine ⟨fun h => absurd h (by decide), name_any fun u1 hw => ?_⟩
      have x3 : Box u1 u0.heap.size #[.int .i64 0, .int .i64 0, .int .i64 0, .int .i64 0, .slice none 0 0, .int .i64 0, .int .i64 0, .int .i64 0, .slice none 0 0] 58 := hw ▸ Box.new _ _ _
      have hh : Below u0.heap.size u0 u1 := hw ▸ ((Below.refl _ _).alloc (Nat.le_refl _) _)
      have s1 : u0.heap.size < u1.heap.size := hw ▸ (by simp)
      clear hw
      replace hp0 := hp0.next hh
      replace hE := hE.trans (Ext.below hh (Nat.le_refl _))
      replace hV := hV.trans (hh.mono hV.size)
      clear hh
      refine wpAny_twoM 1 6 39 101 (by kernel_rfl) (by kernel_rfl) (of_decide_eq_true (by kernel_rfl)) (of_decide_eq_true (by kernel_rfl)) (by rfl) (by rfl) ?_ ?_
      ·
        simp only [List.getD_cons_succ, List.getD_cons_zero]
        go_wp2_with fail
        refine (frown_any _ P0 _ hp0 (by have h := HS0.out.1; omega) (by have h := HS0.out.2.1; omega) HS0.out.2.2).mono ?_
        rintro e u2 ⟨⟨va, rfl, ha⟩, hh⟩
        have s2 := hh.size
        replace hp0 := hp0.next hh
        replace x3 := x3.next hh
        replace hE := hE.trans (Ext.below hh (Nat.le_refl _))
        replace hV := hV.trans (hh.mono hV.size)
        clear hh
        replace ha : FixF true u2 u1.heap.size u2.heap.size va P0 := ⟨ha.fr, Nat.le_refl _⟩
        go_wp2_with fail
        refine ⟨fun _ => hE, ?_⟩
        refine wpAny_twoM 3 6 47 103 (by kernel_rfl) (by kernel_rfl) (of_decide_eq_true (by kernel_rfl)) (of_decide_eq_true (by kernel_rfl)) (by rfl) (by rfl) ?_ ?_
        ·
          simp only [List.getD_cons_succ, List.getD_cons_zero]
          go_wp2_with fail
          refine (frcut_any _ P0 _ hp0).mono ?_
          rw [HCC.out]
          rintro e u3 ⟨⟨vc, rfl, hc⟩, hh⟩
          have s3 := hh.size
          replace hp0 := hp0.next hh
          replace x3 := x3.next hh
          replace ha := ha.next hh
          replace hE := hE.trans (Ext.below hh (Nat.le_refl _))
          replace hV := hV.trans (hh.mono hV.size)
          clear hh
          replace hc : FixF false u3 u2.heap.size u3.heap.size vc P0 := ⟨hc, Nat.le_refl _⟩
          go_wp2_with fail
          refine ⟨fun _ => hE, ?_⟩
          refine wpAny_twoM 4 6 63 111 (by kernel_rfl) (by kernel_rfl) (of_decide_eq_true (by kernel_rfl)) (of_decide_eq_true (by kernel_rfl)) (by rfl) (by rfl) ?_ ?_
          ·
            simp only [List.getD_cons_succ, List.getD_cons_zero]
            go_wp2_with fail
            refine (frrefl_any u2.heap.size u3.heap.size _ P0 _ hc.2 hc.1 (by have h := HS0.out.1; omega)).mono ?_
            rintro e u4 ⟨⟨vd, rfl, hd⟩, hh⟩
            have s4 := hh.size
            replace hp0 := hp0.next hh
            replace x3 := x3.next hh
            replace ha := ha.next hh
            replace hc := hc.next hh
            replace hE := hE.trans (Ext.below hh (Nat.le_refl _))
            replace hV := hV.trans (hh.mono hV.size)
            clear hh
            replace hd : FixS u4 (fun b => (u2.heap.size ≤ b ∧ b < u3.heap.size) ∨ (u3.heap.size ≤ b ∧ b < u4.heap.size)) vd P0 := ⟨hd, fun b hb => by omega⟩
            go_wp2_with fail
            refine ⟨fun _ => hE, ?_⟩
            refine wpAny_oneM 6 127 (by kernel_rfl) (by kernel_rfl) (of_decide_eq_true (by kernel_rfl)) (by rfl) ?_
            simp only [List.getD_cons_succ, List.getD_cons_zero]
            go_wp2_with fail
            refine ⟨fun h => absurd h (by decide), name_any fun u5 hw => ?_⟩
            have x4 : Box u5 u4.heap.size #[.int .i64 0, .int .i64 0, .int .i64 0, .int .i64 0, .slice none 0 0, .int .i64 0, .int .i64 0, .int .i64 0, .slice none 0 0] 64 := hw ▸ Box.new _ _ _
            have hh : Below u4.heap.size u4 u5 := hw ▸ ((Below.refl _ _).alloc (Nat.le_refl _) _)
            have s5 : u4.heap.size < u5.heap.size := hw ▸ (by simp)
            clear hw
            replace hp0 := hp0.next hh
            replace x3 := x3.next hh
            replace ha := ha.next hh
            replace hc := hc.next hh
            replace hd := hd.next hh
            replace hE := hE.trans (Ext.below hh (Nat.le_refl _))
            replace hV := hV.trans (hh.mono hV.size)
            clear hh
            obtain ⟨aA, aB, ak, al, rfl, _, _⟩ := id ha.1
            obtain ⟨dA, dB, dk, dl, rfl, _, _⟩ := id hd.1
            obtain ⟨d0, d1, d2, d3, d4, d5, d6, d7, d8⟩ := nine_cells x3
            obtain ⟨f0, f1, f2, f3, f4, f5, f6, f7, f8⟩ := nine_free x3
            refine wpAny_go 26 127 [7] 255 1 (by kernel_rfl) (by kernel_rfl) (fun _ _ _ _ _ h => h) (by kernel_rfl) (by rfl) (by rfl) (by kernel_rfl) ?_
            simp only [List.map_cons, List.map_nil, List.getD_cons_succ, List.getD_cons_zero]
            go_wp2_with fail
            change wpAnyM _ _ _ _ _ _ _ _ _ _
            clear d0 d1 d2 d3 d4 d5 d6 d7 d8
            clear f0 f1 f2 f3 f4 f5 f6 f7 f8
            refine name_any fun uz hw => ?_
            have y4 : Box uz u4.heap.size #[.int .i64 0, .int .i64 0, .int .i64 0, .int .i64 0, .slice none 0 0, .int .i64 0, .int .i64 0, .int .i64 0, .slice none 0 0] 64 := by rw [← hw]; exact x4.nine_far (by omega)
            obtain ⟨d0, d1, d2, d3, d4, d5, d6, d7, d8⟩ := nine_cells y4
            obtain ⟨f0, f1, f2, f3, f4, f5, f6, f7, f8⟩ := nine_free y4
            refine wpAny_go 26 255 [8] 511 0 (by kernel_rfl) (by kernel_rfl) (fun _ _ _ _ _ h => h) (by kernel_rfl) (by rfl) (by rfl) (by kernel_rfl) ?_
            simp only [List.map_cons, List.map_nil, List.getD_cons_succ, List.getD_cons_zero]
            go_wp2_with fail
            change wpAnyM _ _ _ _ _ _ _ _ _ _
            clear d0 d1 d2 d3 d4 d5 d6 d7 d8
            clear f0 f1 f2 f3 f4 f5 f6 f7 f8
            subst hw
            refine wpAny_endM (by kernel_rfl) (by kernel_rfl) ?_
            go_wp2_with fail
            go_meet
            have z1 := ha.2
            exact Sides7.of x3 x4 ha hd (by omega) (by omega) (by omega) (by omega) (by omega) (by omega) (by omega) (by omega) (by omega) hV
          ·
            simp only [List.getD_cons_succ, List.getD_cons_zero]
            go_wp2_with fail
            refine ⟨fun h => absurd h (by decide), name_any fun u4 hw => ?_⟩
            have x4 : Box u4 u3.heap.size #[.int .i64 0, .int .i64 0, .int .i64 0, .int .i64 0, .slice none 0 0, .int .i64 0, .int .i64 0, .int .i64 0, .slice none 0 0] 64 := hw ▸ Box.new _ _ _
            have hh : Below u3.heap.size u3 u4 := hw ▸ ((Below.refl _ _).alloc (Nat.le_refl _) _)
            have s4 : u3.heap.size < u4.heap.size := hw ▸ (by simp)
            clear hw
            replace hp0 := hp0.next hh
            replace x3 := x3.next hh
            replace ha := ha.next hh
            replace hc := hc.next hh
            replace hE := hE.trans (Ext.below hh (Nat.le_refl _))
            replace hV := hV.trans (hh.mono hV.size)
            clear hh
            refine wpAny_oneM 4 127 (by kernel_rfl) (by kernel_rfl) (of_decide_eq_true (by kernel_rfl)) (by rfl) ?_
            simp only [List.getD_cons_succ, List.getD_cons_zero]
            go_wp2_with fail
            refine (frrefl_any u2.heap.size u3.heap.size _ P0 _ hc.2 hc.1 (by have h := HS0.out.1; omega)).mono ?_
            rintro e u5 ⟨⟨vd, rfl, hd⟩, hh⟩
            have s5 := hh.size
            replace hp0 := hp0.next hh
            replace x3 := x3.next hh
            replace ha := ha.next hh
            replace hc := hc.next hh
            replace x4 := x4.next hh
            replace hE := hE.trans (Ext.below hh (Nat.le_refl _))
            replace hV := hV.trans (hh.mono hV.size)
            clear hh
            replace hd : FixS u5 (fun b => (u2.heap.size ≤ b ∧ b < u3.heap.size) ∨ (u4.heap.size ≤ b ∧ b < u5.heap.size)) vd P0 := ⟨hd, fun b hb => by omega⟩
            go_wp2_with fail
            refine ⟨fun _ => hE, ?_⟩
            obtain ⟨aA, aB, ak, al, rfl, _, _⟩ := id ha.1
            obtain ⟨dA, dB, dk, dl, rfl, _, _⟩ := id hd.1
            obtain ⟨d0, d1, d2, d3, d4, d5, d6, d7, d8⟩ := nine_cells x3
            obtain ⟨f0, f1, f2, f3, f4, f5, f6, f7, f8⟩ := nine_free x3
            refine wpAny_go 26 127 [7] 255 1 (by kernel_rfl) (by kernel_rfl) (fun _ _ _ _ _ h => h) (by kernel_rfl) (by rfl) (by rfl) (by kernel_rfl) ?_
            simp only [List.map_cons, List.map_nil, List.getD_cons_succ, List.getD_cons_zero]
            go_wp2_with fail
            change wpAnyM _ _ _ _ _ _ _ _ _ _
            clear d0 d1 d2 d3 d4 d5 d6 d7 d8
            clear f0 f1 f2 f3 f4 f5 f6 f7 f8
            refine name_any fun uz hw => ?_
            have y4 : Box uz u3.heap.size #[.int .i64 0, .int .i64 0, .int .i64 0, .int .i64 0, .slice none 0 0, .int .i64 0, .int .i64 0, .int .i64 0, .slice none 0 0] 64 := by rw [← hw]; exact x4.nine_far (by omega)
            obtain ⟨d0, d1, d2, d3, d4, d5, d6, d7, d8⟩ := nine_cells y4
            obtain ⟨f0, f1, f2, f3, f4, f5, f6, f7, f8⟩ := nine_free y4
            refine wpAny_go 26 255 [8] 511 0 (by kernel_rfl) (by kernel_rfl) (fun _ _ _ _ _ h => h) (by kernel_rfl) (by rfl) (by rfl) (by kernel_rfl) ?_
            simp only [List.map_cons, List.map_nil, List.getD_cons_succ, List.getD_cons_zero]
            go_wp2_with fail
            change wpAnyM _ _ _ _ _ _ _ _ _ _
            clear d0 d1 d2 d3 d4 d5 d6 d7 d8
            clear f0 f1 f2 f3 f4 f5 f6 f7 f8
            subst hw
            refine wpAny_endM (by kernel_rfl) (by kernel_rfl) ?_
            go_wp2_with fail
            go_meet
            have z1 := ha.2
            exact Sides7.of x3 x4 ha hd (by omega) (by omega) (by omega) (by omega) (by omega) (by omega) (by omega) (by omega) (by omega) hV
        ·
          simp only [List.getD_cons_succ, List.getD_cons_zero]
          go_wp2_with fail
          refine ⟨fun h => absurd h (by decide), name_any fun u3 hw => ?_⟩
          have x4 : Box u3 u2.heap.size #[.int .i64 0, .int .i64 0, .int .i64 0, .int .i64 0, .slice none 0 0, .int .i64 0, .int .i64 0, .int .i64 0, .slice none 0 0] 64 := hw ▸ Box.new _ _ _
          have hh : Below u2.heap.size u2 u3 := hw ▸ ((Below.refl _ _).alloc (Nat.le_refl _) _)
          have s3 : u2.heap.size < u3.heap.size := hw ▸ (by simp)
          clear hw
          replace hp0 := hp0.next hh
          replace x3 := x3.next hh
          replace ha := ha.next hh
          replace hE := hE.trans (Ext.below hh (Nat.le_refl _))
          replace hV := hV.trans (hh.mono hV.size)
          clear hh
          refine wpAny_oneM 3 111 (by kernel_rfl) (by kernel_rfl) (of_decide_eq_true (by kernel_rfl)) (by rfl) ?_
          simp only [List.getD_cons_succ, List.getD_cons_zero]
          go_wp2_with fail
          refine (frcut_any _ P0 _ hp0).mono ?_
          rw [HCC.out]
          rintro e u4 ⟨⟨vc, rfl, hc⟩, hh⟩
          have s4 := hh.size
          replace hp0 := hp0.next hh
          replace x3 := x3.next hh
          replace ha := ha.next hh
          replace x4 := x4.next hh
          replace hE := hE.trans (Ext.below hh (Nat.le_refl _))
          replace hV := hV.trans (hh.mono hV.size)
          clear hh
          replace hc : FixF false u4 u3.heap.size u4.heap.size vc P0 := ⟨hc, Nat.le_refl _⟩
          go_wp2_with fail
          refine ⟨fun _ => hE, ?_⟩
          refine wpAny_oneM 4 127 (by kernel_rfl) (by kernel_rfl) (of_decide_eq_true (by kernel_rfl)) (by rfl) ?_
          simp only [List.getD_cons_succ, List.getD_cons_zero]
          go_wp2_with fail
          refine (frrefl_any u3.heap.size u4.heap.size _ P0 _ hc.2 hc.1 (by have h := HS0.out.1; omega)).mono ?_
          rintro e u5 ⟨⟨vd, rfl, hd⟩, hh⟩
          have s5 := hh.size
          replace hp0 := hp0.next hh
          replace x3 := x3.next hh
          replace ha := ha.next hh
          replace x4 := x4.next hh
          replace hc := hc.next hh
          replace hE := hE.trans (Ext.below hh (Nat.le_refl _))
          replace hV := hV.trans (hh.mono hV.size)
          clear hh
          replace hd : FixS u5 (fun b => (u3.heap.size ≤ b ∧ b < u4.heap.size) ∨ (u4.heap.size ≤ b ∧ b < u5.heap.size)) vd P0 := ⟨hd, fun b hb => by omega⟩
          go_wp2_with fail
          refine ⟨fun _ => hE, ?_⟩
          obtain ⟨aA, aB, ak, al, rfl, _, _⟩ := id ha.1
          obtain ⟨dA, dB, dk, dl, rfl, _, _⟩ := id hd.1
          obtain ⟨d0, d1, d2, d3, d4, d5, d6, d7, d8⟩ := nine_cells x3
          obtain ⟨f0, f1, f2, f3, f4, f5, f6, f7, f8⟩ := nine_free x3
          refine wpAny_go 26 127 [7] 255 1 (by kernel_rfl) (by kernel_rfl) (fun _ _ _ _ _ h => h) (by kernel_rfl) (by rfl) (by rfl) (by kernel_rfl) ?_
          simp only [List.map_cons, List.map_nil, List.getD_cons_succ, List.getD_cons_zero]
          go_wp2_with fail
          change wpAnyM _ _ _ _ _ _ _ _ _ _
          clear d0 d1 d2 d3 d4 d5 d6 d7 d8
          clear f0 f1 f2 f3 f4 f5 f6 f7 f8
          refine name_any fun uz hw => ?_
          have y4 : Box uz u2.heap.size #[.int .i64 0, .int .i64 0, .int .i64 0, .int .i64 0, .slice none 0 0, .int .i64 0, .int .i64 0, .int .i64 0, .slice none 0 0] 64 := by rw [← hw]; exact x4.nine_far (by omega)
          obtain ⟨d0, d1, d2, d3, d4, d5, d6, d7, d8⟩ := nine_cells y4
          obtain ⟨f0, f1, f2, f3, f4, f5, f6, f7, f8⟩ := nine_free y4
          refine wpAny_go 26 255 [8] 511 0 (by kernel_rfl) (by kernel_rfl) (fun _ _ _ _ _ h => h) (by kernel_rfl) (by rfl) (by rfl) (by kernel_rfl) ?_
          simp only [List.map_cons, List.map_nil, List.getD_cons_succ, List.getD_cons_zero]
          go_wp2_with fail
          change wpAnyM _ _ _ _ _ _ _ _ _ _
          clear d0 d1 d2 d3 d4 d5 d6 d7 d8
          clear f0 f1 f2 f3 f4 f5 f6 f7 f8
          subst hw
          refine wpAny_endM (by kernel_rfl) (by kernel_rfl) ?_
          go_wp2_with fail
          go_meet
          have z1 := ha.2
          exact Sides7.of x3 x4 ha hd (by omega) (by omega) (by omega) (by omega) (by omega) (by omega) (by omega) (by omega) (by omega) hV
      ·
        simp only [List.getD_cons_succ, List.getD_cons_zero]
        go_wp2_with fail
        refine ⟨fun h => absurd h (by decide), name_any fun u2 hw => ?_⟩
        have x4 : Box u2 u1.heap.size #[.int .i64 0, .int .i64 0, .int .i64 0, .int .i64 0, .slice none 0 0, .int .i64 0, .int .i64 0, .int .i64 0, .slice none 0 0] 64 := hw ▸ Box.new _ _ _
        have hh : Below u1.heap.size u1 u2 := hw ▸ ((Below.refl _ _).alloc (Nat.le_refl _) _)
        have s2 : u1.heap.size < u2.heap.size := hw ▸ (by simp)
        clear hw
        replace hp0 := hp0.next hh
        replace x3 := x3.next hh
        replace hE := hE.trans (Ext.below hh (Nat.le_refl _))
        replace hV := hV.trans (hh.mono hV.size)
        clear hh
        refine wpAny_oneM 1 103 (by kernel_rfl) (by kernel_rfl) (of_decide_eq_true (by kernel_rfl)) (by rfl) ?_
        simp only [List.getD_cons_succ, List.getD_cons_zero]
        go_wp2_with fail
        refine (frown_any _ P0 _ hp0 (by have h := HS0.out.1; omega) (by have h := HS0.out.2.1; omega) HS0.out.2.2).mono ?_
        rintro e u3 ⟨⟨va, rfl, ha⟩, hh⟩
        have s3 := hh.size
        replace hp0 := hp0.next hh
        replace x3 := x3.next hh
        replace x4 := x4.next hh
        replace hE := hE.trans (Ext.below hh (Nat.le_refl _))
        replace hV := hV.trans (hh.mono hV.size)
        clear hh
        replace ha : FixF true u3 u2.heap.size u3.heap.size va P0 := ⟨ha.fr, Nat.le_refl _⟩
        go_wp2_with fail
        refine ⟨fun _ => hE, ?_⟩
        refine wpAny_oneM 3 111 (by kernel_rfl) (by kernel_rfl) (of_decide_eq_true (by kernel_rfl)) (by rfl) ?_
        simp only [List.getD_cons_succ, List.getD_cons_zero]
        go_wp2_with fail
        refine (frcut_any _ P0 _ hp0).mono ?_
        rw [HCC.out]
        rintro e u4 ⟨⟨vc, rfl, hc⟩, hh⟩
        have s4 := hh.size
        replace hp0 := hp0.next hh
        replace x3 := x3.next hh
        replace x4 := x4.next hh
        replace ha := ha.next hh
        replace hE := hE.trans (Ext.below hh (Nat.le_refl _))
        replace hV := hV.trans (hh.mono hV.size)
        clear hh
        replace hc : FixF false u4 u3.heap.size u4.heap.size vc P0 := ⟨hc, Nat.le_refl _⟩
        go_wp2_with fail
        refine ⟨fun _ => hE, ?_⟩
        refine wpAny_oneM 4 127 (by kernel_rfl) (by kernel_rfl) (of_decide_eq_true (by kernel_rfl)) (by rfl) ?_
        simp only [List.getD_cons_succ, List.getD_cons_zero]
        go_wp2_with fail
        refine (frrefl_any u3.heap.size u4.heap.size _ P0 _ hc.2 hc.1 (by have h := HS0.out.1; omega)).mono ?_
        rintro e u5 ⟨⟨vd, rfl, hd⟩, hh⟩
        have s5 := hh.size
        replace hp0 := hp0.next hh
        replace x3 := x3.next hh
        replace x4 := x4.next hh
        replace ha := ha.next hh
        replace hc := hc.next hh
        replace hE := hE.trans (Ext.below hh (Nat.le_refl _))
        replace hV := hV.trans (hh.mono hV.size)
        clear hh
        replace hd : FixS u5 (fun b => (u3.heap.size ≤ b ∧ b < u4.heap.size) ∨ (u4.heap.size ≤ b ∧ b < u5.heap.size)) vd P0 := ⟨hd, fun b hb => by omega⟩
        go_wp2_with fail
        refine ⟨fun _ => hE, ?_⟩
        obtain ⟨aA, aB, ak, al, rfl, _, _⟩ := id ha.1
        obtain ⟨dA, dB, dk, dl, rfl, _, _⟩ := id hd.1
        obtain ⟨d0, d1, d2, d3, d4, d5, d6, d7, d8⟩ := nine_cells x3
        obtain ⟨f0, f1, f2, f3, f4, f5, f6, f7, f8⟩ := nine_free x3
        refine wpAny_go 26 127 [7] 255 1 (by kernel_rfl) (by kernel_rfl) (fun _ _ _ _ _ h => h) (by kernel_rfl) (by rfl) (by rfl) (by kernel_rfl) ?_
        simp only [List.map_cons, List.map_nil, List.getD_cons_succ, List.getD_cons_zero]
        go_wp2_with fail
        change wpAnyM _ _ _ _ _ _ _ _ _ _
        clear d0 d1 d2 d3 d4 d5 d6 d7 d8
        clear f0 f1 f2 f3 f4 f5 f6 f7 f8
        refine name_any fun uz hw => ?_
        have y4 : Box uz u1.heap.size #[.int .i64 0, .int .i64 0, .int .i64 0, .int .i64 0, .slice none 0 0, .int .i64 0, .int .i64 0, .int .i64 0, .slice none 0 0] 64 := by rw [← hw]; exact x4.nine_far (by omega)
        obtain ⟨d0, d1, d2, d3, d4, d5, d6, d7, d8⟩ := nine_cells y4
        obtain ⟨f0, f1, f2, f3, f4, f5, f6, f7, f8⟩ := nine_free y4
        refine wpAny_go 26 255 [8] 511 0 (by kernel_rfl) (by kernel_rfl) (fun _ _ _ _ _ h => h) (by kernel_rfl) (by rfl) (by rfl) (by kernel_rfl) ?_
        simp only [List.map_cons, List.map_nil, List.getD_cons_succ, List.getD_cons_zero]
        go_wp2_with fail
        change wpAnyM _ _ _ _ _ _ _ _ _ _
        clear d0 d1 d2 d3 d4 d5 d6 d7 d8
        clear f0 f1 f2 f3 f4 f5 f6 f7 f8
        subst hw
        refine wpAny_endM (by kernel_rfl) (by kernel_rfl) ?_
        go_wp2_with fail
        go_meet
        have z1 := ha.2
        exact Sides7.of x3 x4 ha hd (by omega) (by omega) (by omega) (by omega) (by omega) (by omega) (by omega) (by omega) (by omega) hV
    ·
      simp only [List.getD_cons_succ, List.getD_cons_zero]
      go_wp2_with fail
      refine ⟨fun h => absurd h (by decide), name_any fun u1 hw => ?_⟩
      have x4 : Box u1 u0.heap.size #[.int .i64 0, .int .i64 0, .int .i64 0, .int .i64 0, .slice none 0 0, .int .i64 0, .int .i64 0, .int .i64 0, .slice none 0 0] 64 := hw ▸ Box.new _ _ _
      have hh : Below u0.heap.size u0 u1 := hw ▸ ((Below.refl _ _).alloc (Nat.le_refl _) _)
      have s1 : u0.heap.size < u1.heap.size := hw ▸ (by simp)
      clear hw
      replace hp0 := hp0.next hh
      replace hE := hE.trans (Ext.below hh (Nat.le_refl _))
      replace hV := hV.trans (hh.mono hV.size)
      clear hh
      refine wpAny_twoM 1 5 71 101 (by kernel_rfl) (by kernel_rfl) (of_decide_eq_true (by kernel_rfl)) (of_decide_eq_true (by kernel_rfl)) (by rfl) (by rfl) ?_ ?_
      ·
        simp only [List.getD_cons_succ, List.getD_cons_zero]
        go_wp2_with fail
        refine (frown_any _ P0 _ hp0 (by have h := HS0.out.1; omega) (by have h := HS0.out.2.1; omega) HS0.out.2.2).mono ?_
        rintro e u2 ⟨⟨va, rfl, ha⟩, hh⟩
        have s2 := hh.size
        replace hp0 := hp0.next hh
        replace x4 := x4.next hh
        replace hE := hE.trans (Ext.below hh (Nat.le_refl _))
        replace hV := hV.trans (hh.mono hV.size)
        clear hh
        replace ha : FixF true u2 u1.heap.size u2.heap.size va P0 := ⟨ha.fr, Nat.le_refl _⟩
        go_wp2_with fail
        refine ⟨fun _ => hE, ?_⟩
        refine wpAny_twoM 3 5 79 103 (by kernel_rfl) (by kernel_rfl) (of_decide_eq_true (by kernel_rfl)) (of_decide_eq_true (by kernel_rfl)) (by rfl) (by rfl) ?_ ?_
        ·
          simp only [List.getD_cons_succ, List.getD_cons_zero]
          go_wp2_with fail
          refine (frcut_any _ P0 _ hp0).mono ?_
          rw [HCC.out]
          rintro e u3 ⟨⟨vc, rfl, hc⟩, hh⟩
          have s3 := hh.size
          replace hp0 := hp0.next hh
          replace x4 := x4.next hh
          replace ha := ha.next hh
          replace hE := hE.trans (Ext.below hh (Nat.le_refl _))
          replace hV := hV.trans (hh.mono hV.size)
          clear hh
          replace hc : FixF false u3 u2.heap.size u3.heap.size vc P0 := ⟨hc, Nat.le_refl _⟩
          go_wp2_with fail
          refine ⟨fun _ => hE, ?_⟩
          refine wpAny_twoM 4 5 95 111 (by kernel_rfl) (by kernel_rfl) (of_decide_eq_true (by kernel_rfl)) (of_decide_eq_true (by kernel_rfl)) (by rfl) (by rfl) ?_ ?_
          ·
            simp only [List.getD_cons_succ, List.getD_cons_zero]
            go_wp2_with fail
            refine (frrefl_any u2.heap.size u3.heap.size _ P0 _ hc.2 hc.1 (by have h := HS0.out.1; omega)).mono ?_
            rintro e u4 ⟨⟨vd, rfl, hd⟩, hh⟩
            have s4 := hh.size
            replace hp0 := hp0.next hh
            replace x4 := x4.next hh
            replace ha := ha.next hh
            replace hc := hc.next hh
            replace hE := hE.trans (Ext.below hh (Nat.le_refl _))
            replace hV := hV.trans (hh.mono hV.size)
            clear hh
            replace hd : FixS u4 (fun b => (u2.heap.size ≤ b ∧ b < u3.heap.size) ∨ (u3.heap.size ≤ b ∧ b < u4.heap.size)) vd P0 := ⟨hd, fun b hb => by omega⟩
            go_wp2_with fail
            refine ⟨fun _ => hE, ?_⟩
            refine wpAny_oneM 5 127 (by kernel_rfl) (by kernel_rfl) (of_decide_eq_true (by kernel_rfl)) (by rfl) ?_
            simp only [List.getD_cons_succ, List.getD_cons_zero]
            go_wp2_with fail
            refine ⟨fun h => absurd h (by decide), name_any fun u5 hw => ?_⟩
            have x3 : Box u5 u4.heap.size #[.int .i64 0, .int .i64 0, .int .i64 0, .int .i64 0, .slice none 0 0, .int .i64 0, .int .i64 0, .int .i64 0, .slice none 0 0] 58 := hw ▸ Box.new _ _ _
            have hh : Below u4.heap.size u4 u5 := hw ▸ ((Below.refl _ _).alloc (Nat.le_refl _) _)
            have s5 : u4.heap.size < u5.heap.size := hw ▸ (by simp)
            clear hw
            replace hp0 := hp0.next hh
            replace x4 := x4.next hh
            replace ha := ha.next hh
            replace hc := hc.next hh
            replace hd := hd.next hh
            replace hE := hE.trans (Ext.below hh (Nat.le_refl _))
            replace hV := hV.trans (hh.mono hV.size)
            clear hh
            obtain ⟨aA, aB, ak, al, rfl, _, _⟩ := id ha.1
            obtain ⟨dA, dB, dk, dl, rfl, _, _⟩ := id hd.1
            obtain ⟨d0, d1, d2, d3, d4, d5, d6, d7, d8⟩ := nine_cells x3
            obtain ⟨f0, f1, f2, f3, f4, f5, f6, f7, f8⟩ := nine_free x3
            refine wpAny_go 26 127 [7] 255 1 (by kernel_rfl) (by kernel_rfl) (fun _ _ _ _ _ h => h) (by kernel_rfl) (by rfl) (by rfl) (by kernel_rfl) ?_
            simp only [List.map_cons, List.map_nil, List.getD_cons_succ, List.getD_cons_zero]
            go_wp2_with fail
            change wpAnyM _ _ _ _ _ _ _ _ _ _
            clear d0 d1 d2 d3 d4 d5 d6 d7 d8
            clear f0 f1 f2 f3 f4 f5 f6 f7 f8
            refine name_any fun uz hw => ?_
            have y4 : Box uz u0.heap.size #[.int .i64 0, .int .i64 0, .int .i64 0, .int .i64 0, .slice none 0 0, .int .i64 0, .int .i64 0, .int .i64 0, .slice none 0 0] 64 := by rw [← hw]; exact x4.nine_far (by omega)
            obtain ⟨d0, d1, d2, d3, d4, d5, d6, d7, d8⟩ := nine_cells y4
            obtain ⟨f0, f1, f2, f3, f4, f5, f6, f7, f8⟩ := nine_free y4
            refine wpAny_go 26 255 [8] 511 0 (by kernel_rfl) (by kernel_rfl) (fun _ _ _ _ _ h => h) (by kernel_rfl) (by rfl) (by rfl) (by kernel_rfl) ?_
            simp only [List.map_cons, List.map_nil, List.getD_cons_succ, List.getD_cons_zero]
            go_wp2_with fail
            change wpAnyM _ _ _ _ _ _ _ _ _ _
            clear d0 d1 d2 d3 d4 d5 d6 d7 d8
            clear f0 f1 f2 f3 f4 f5 f6 f7 f8
            subst hw
            refine wpAny_endM (by kernel_rfl) (by kernel_rfl) ?_
            go_wp2_with fail
            go_meet
            have z1 := ha.2
            exact Sides7.of x3 x4 ha hd (by omega) (by omega) (by omega) (by omega) (by omega) (by omega) (by omega) (by omega) (by omega) hV
          ·
            simp only [List.getD_cons_succ, List.getD_cons_zero]
            go_wp2_with fail
            refine ⟨fun h => absurd h (by decide), name_any fun u4 hw => ?_⟩
            have x3 : Box u4 u3.heap.size #[.int .i64 0, .int .i64 0, .int .i64 0, .int .i64 0, .slice none 0 0, .int .i64 0, .int .i64 0, .int .i64 0, .slice none 0 0] 58 := hw ▸ Box.new _ _ _
            have hh : Below u3.heap.size u3 u4 := hw ▸ ((Below.refl _ _).alloc (Nat.le_refl _) _)
            have s4 : u3.heap.size < u4.heap.size := hw ▸ (by simp)
            clear hw
            replace hp0 := hp0.next hh
            replace x4 := x4.next hh
            replace ha := ha.next hh
            replace hc := hc.next hh
            replace hE := hE.trans (Ext.below hh (Nat.le_refl _))
            replace hV := hV.trans (hh.mono hV.size)
            clear hh
            refine wpAny_oneM 4 127 (by kernel_rfl) (by kernel_rfl) (of_decide_eq_true (by kernel_rfl)) (by rfl) ?_
            simp only [List.getD_cons_succ, List.getD_cons_zero]
            go_wp2_with fail
            refine (frrefl_any u2.heap.size u3.heap.size _ P0 _ hc.2 hc.1 (by have h := HS0.out.1; omega)).mono ?_
            rintro e u5 ⟨⟨vd, rfl, hd⟩, hh⟩
            have s5 := hh.size
            replace hp0 := hp0.next hh
            replace x4 := x4.next hh
            replace ha := ha.next hh
            replace hc := hc.next hh
            replace x3 := x3.next hh
            replace hE := hE.trans (Ext.below hh (Nat.le_refl _))
            replace hV := hV.trans (hh.mono hV.size)
            clear hh
            replace hd : FixS u5 (fun b => (u2.heap.size ≤ b ∧ b < u3.heap.size) ∨ (u4.heap.size ≤ b ∧ b < u5.heap.size)) vd P0 := ⟨hd, fun b hb => by omega⟩
            go_wp2_with fail
            refine ⟨fun _ => hE, ?_⟩
            obtain ⟨aA, aB, ak, al, rfl, _, _⟩ := id ha.1
            obtain ⟨dA, dB, dk, dl, rfl, _, _⟩ := id hd.1
            obtain ⟨d0, d1, d2, d3, d4, d5, d6, d7, d8⟩ := nine_cells x3
            obtain ⟨f0, f1, f2, f3, f4, f5, f6, f7, f8⟩ := nine_free x3
            refine wpAny_go 26 127 [7] 255 1 (by kernel_rfl) (by kernel_rfl) (fun _ _ _ _ _ h => h) (by kernel_rfl) (by rfl) (by rfl) (by kernel_rfl) ?_
            simp only [List.map_cons, List.map_nil, List.getD_cons_succ, List.getD_cons_zero]
            go_wp2_with fail
            change wpAnyM _ _ _ _ _ _ _ _ _ _
            clear d0 d1 d2 d3 d4 d5 d6 d7 d8
            clear f0 f1 f2 f3 f4 f5 f6 f7 f8
            refine name_any fun uz hw => ?_
            have y4 : Box uz u0.heap.size #[.int .i64 0, .int .i64 0, .int .i64 0, .int .i64 0, .slice none 0 0, .int .i64 0, .int .i64 0, .int .i64 0, .slice none 0 0] 64 := by rw [← hw]; exact x4.nine_far (by omega)
            obtain ⟨d0, d1, d2, d3, d4, d5, d6, d7, d8⟩ := nine_cells y4
            obtain ⟨f0, f1, f2, f3, f4, f5, f6, f7, f8⟩ := nine_free y4
            refine wpAny_go 26 255 [8] 511 0 (by kernel_rfl) (by kernel_rfl) (fun _ _ _ _ _ h => h) (by kernel_rfl) (by rfl) (by rfl) (by kernel_rfl) ?_
            simp only [List.map_cons, List.map_nil, List.getD_cons_succ, List.getD_cons_zero]
            go_wp2_with fail
            change wpAnyM _ _ _ _ _ _ _ _ _ _
            clear d0 d1 d2 d3 d4 d5 d6 d7 d8
            clear f0 f1 f2 f3 f4 f5 f6 f7 f8
            subst hw
            refine wpAny_endM (by kernel_rfl) (by kernel_rfl) ?_
            go_wp2_with fail
            go_meet
            have z1 := ha.2
            exact Sides7.of x3 x4 ha hd (by omega) (by omega) (by omega) (by omega) (by omega) (by omega) (by omega) (by omega) (by omega) hV
        ·
          simp only [List.getD_cons_succ, List.getD_cons_zero]
          go_wp2_with fail
          refine ⟨fun h => absurd h (by decide), name_any fun u3 hw => ?_⟩
          have x3 : Box u3 u2.heap.size #[.int .i64 0, .int .i64 0, .int .i64 0, .int .i64 0, .slice none 0 0, .int .i64 0, .int .i64 0, .int .i64 0, .slice none 0 0] 58 := hw ▸ Box.new _ _ _
          have hh : Below u2.heap.size u2 u3 := hw ▸ ((Below.refl _ _).alloc (Nat.le_refl _) _)
          have s3 : u2.heap.size < u3.heap.size := hw ▸ (by simp)
          clear hw
          replace hp0 := hp0.next hh
          replace x4 := x4.next hh
          replace ha := ha.next hh
          replace hE := hE.trans (Ext.below hh (Nat.le_refl _))
          replace hV := hV.trans (hh.mono hV.size)
          clear hh
          refine wpAny_oneM 3 111 (by kernel_rfl) (by kernel_rfl) (of_decide_eq_true (by kernel_rfl)) (by rfl) ?_
          simp only [List.getD_cons_succ, List.getD_cons_zero]
          go_wp2_with fail
          refine (frcut_any _ P0 _ hp0).mono ?_
          rw [HCC.out]
          rintro e u4 ⟨⟨vc, rfl, hc⟩, hh⟩
          have s4 := hh.size
          replace hp0 := hp0.next hh
          replace x4 := x4.next hh
          replace ha := ha.next hh
          replace x3 := x3.next hh
          replace hE := hE.trans (Ext.below hh (Nat.le_refl _))
          replace hV := hV.trans (hh.mono hV.size)
          clear hh
          replace hc : FixF false u4 u3.heap.size u4.heap.size vc P0 := ⟨hc, Nat.le_refl _⟩
          go_wp2_with fail
          refine ⟨fun _ => hE, ?_⟩
          refine wpAny_oneM 4 127 (by kernel_rfl) (by kernel_rfl) (of_decide_eq_true (by kernel_rfl)) (by rfl) ?_
          simp only [List.getD_cons_succ, List.getD_cons_zero]
          go_wp2_with fail
          refine (frrefl_any u3.heap.size u4.heap.size _ P0 _ hc.2 hc.1 (by have h := HS0.out.1; omega)).mono ?_
          rintro e u5 ⟨⟨vd, rfl, hd⟩, hh⟩
          have s5 := hh.size
          replace hp0 := hp0.next hh
          replace x4 := x4.next hh
          replace ha := ha.next hh
          replace x3 := x3.next hh
          replace hc := hc.next hh
          replace hE := hE.trans (Ext.below hh (Nat.le_refl _))
          replace hV := hV.trans (hh.mono hV.size)
          clear hh
          replace hd : FixS u5 (fun b => (u3.heap.size ≤ b ∧ b < u4.heap.size) ∨ (u4.heap.size ≤ b ∧ b < u5.heap.size)) vd P0 := ⟨hd, fun b hb => by omega⟩
          go_wp2_with fail
          refine ⟨fun _ => hE, ?_⟩
          obtain ⟨aA, aB, ak, al, rfl, _, _⟩ := id ha.1
          obtain ⟨dA, dB, dk, dl, rfl, _, _⟩ := id hd.1
          obtain ⟨d0, d1, d2, d3, d4, d5, d6, d7, d8⟩ := nine_cells x3
          obtain ⟨f0, f1, f2, f3, f4, f5, f6, f7, f8⟩ := nine_free x3
          refine wpAny_go 26 127 [7] 255 1 (by kernel_rfl) (by kernel_rfl) (fun _ _ _ _ _ h => h) (by kernel_rfl) (by rfl) (by rfl) (by kernel_rfl) ?_
          simp only [List.map_cons, List.map_nil, List.getD_cons_succ, List.getD_cons_zero]
          go_wp2_with fail
          change wpAnyM _ _ _ _ _ _ _ _ _ _
          clear d0 d1 d2 d3 d4 d5 d6 d7 d8
          clear f0 f1 f2 f3 f4 f5 f6 f7 f8
          refine name_any fun uz hw => ?_
          have y4 : Box uz u0.heap.size #[.int .i64 0, .int .i64 0, .int .i64 0, .int .i64 0, .slice none 0 0, .int .i64 0, .int .i64 0, .int .i64 0, .slice none 0 0] 64 := by rw [← hw]; exact x4.nine_far (by omega)
          obtain ⟨d0, d1, d2, d3, d4, d5, d6, d7, d8⟩ := nine_cells y4
          obtain ⟨f0, f1, f2, f3, f4, f5, f6, f7, f8⟩ := nine_free y4
          refine wpAny_go 26 255 [8] 511 0 (by kernel_rfl) (by kernel_rfl) (fun _ _ _ _ _ h => h) (by kernel_rfl) (by rfl) (by rfl) (by kernel_rfl) ?_
          simp only [List.map_cons, List.map_nil, List.getD_cons_succ, List.getD_cons_zero]
          go_wp2_with fail
          change wpAnyM _ _ _ _ _ _ _ _ _ _
          clear d0 d1 d2 d3 d4 d5 d6 d7 d8
          clear f0 f1 f2 f3 f4 f5 f6 f7 f8
          subst hw
          refine wpAny_endM (by kernel_rfl) (by kernel_rfl) ?_
          go_wp2_with fail
          go_meet
          have z1 := ha.2
          exact Sides7.of x3 x4 ha hd (by omega) (by omega) (by omega) (by omega) (by omega) (by omega) (by omega) (by omega) (by omega) hV
      ·
        simp only [List.getD_cons_succ, List.getD_cons_zero]
        go_wp2_with fail
        refine ⟨fun h => absurd h (by decide), name_any fun u2 hw => ?_⟩
        have x3 : Box u2 u1.heap.size #[.int .i64 0, .int .i64 0, .int .i64 0, .int .i64 0, .slice none 0 0, .int .i64 0, .int .i64 0, .int .i64 0, .slice none 0 0] 58 := hw ▸ Box.new _ _ _
        have hh : Below u1.heap.size u1 u2 := hw ▸ ((Below.refl _ _).alloc (Nat.le_refl _) _)
        have s2 : u1.heap.size < u2.heap.size := hw ▸ (by simp)
        clear hw
        replace hp0 := hp0.next hh
        replace x4 := x4.next hh
        replace hE := hE.trans (Ext.below hh (Nat.le_refl _))
        replace hV := hV.trans (hh.mono hV.size)
        clear hh
        refine wpAny_oneM 1 103 (by kernel_rfl) (by kernel_rfl) (of_decide_eq_true (by kernel_rfl)) (by rfl) ?_
        simp only [List.getD_cons_succ, List.getD_cons_zero]
        go_wp2_with fail
        refine (frown_any _ P0 _ hp0 (by have h := HS0.out.1; omega) (by have h := HS0.out.2.1; omega) HS0.out.2.2).mono ?_
        rintro e u3 ⟨⟨va, rfl, ha⟩, hh⟩
        have s3 := hh.size
        replace hp0 := hp0.next hh
        replace x4 := x4.next hh
        replace x3 := x3.next hh
        replace hE := hE.trans (Ext.below hh (Nat.le_refl _))
        replace hV := hV.trans (hh.mono hV.size)
        clear hh
        replace ha : FixF true u3 u2.heap.size u3.heap.size va P0 := ⟨ha.fr, Nat.le_refl _⟩
        go_wp2_with fail
        refine ⟨fun _ => hE, ?_⟩
        refine wpAny_oneM 3 111 (by kernel_rfl) (by kernel_rfl) (of_decide_eq_true (by kernel_rfl)) (by rfl) ?_
        simp only [List.getD_cons_succ, List.getD_cons_zero]
        go_wp2_with fail
        refine (frcut_any _ P0 _ hp0).mono ?_
        rw [HCC.out]
        rintro e u4 ⟨⟨vc, rfl, hc⟩, hh⟩
        have s4 := hh.size
        replace hp0 := hp0.next hh
        replace x4 := x4.next hh
        replace x3 := x3.next hh
        replace ha := ha.next hh
        replace hE := hE.trans (Ext.below hh (Nat.le_refl _))
        replace hV := hV.trans (hh.mono hV.size)
        clear hh
        replace hc : FixF false u4 u3.heap.size u4.heap.size vc P0 := ⟨hc, Nat.le_refl _⟩
        go_wp2_with fail
        refine ⟨fun _ => hE, ?_⟩
        refine wpAny_oneM 4 127 (by kernel_rfl) (by kernel_rfl) (of_decide_eq_true (by kernel_rfl)) (by rfl) ?_
        simp only [List.getD_cons_succ, List.getD_cons_zero]
        go_wp2_with fail
        refine (frrefl_any u3.heap.size u4.heap.size _ P0 _ hc.2 hc.1 (by have h := HS0.out.1; omega)).mono ?_
        rintro e u5 ⟨⟨vd, rfl, hd⟩, hh⟩
        have s5 := hh.size
        replace hp0 := hp0.next hh
        replace x4 := x4.next hh
        replace x3 := x3.next hh
        replace ha := ha.next hh
        replace hc := hc.next hh
        replace hE := hE.trans (Ext.below hh (Nat.le_refl _))
        replace hV := hV.trans (hh.mono hV.size)
        clear hh
        replace hd : FixS u5 (fun b => (u3.heap.size ≤ b ∧ b < u4.heap.size) ∨ (u4.heap.size ≤ b ∧ b < u5.heap.size)) vd P0 := ⟨hd, fun b hb => by omega⟩
        go_wp2_with fail
        refine ⟨fun _ => hE, ?_⟩
        obtain ⟨aA, aB, ak, al, rfl, _, _⟩ := id ha.1
        obtain ⟨dA, dB, dk, dl, rfl, _, _⟩ := id hd.1
        obtain ⟨d0, d1, d2, d3, d4, d5, d6, d7, d8⟩ := nine_cells x3
        obtain ⟨f0, f1, f2, f3, f4, f5, f6, f7, f8⟩ := nine_free x3
        refine wpAny_go 26 127 [7] 255 1 (by kernel_rfl) (by kernel_rfl) (fun _ _ _ _ _ h => h) (by kernel_rfl) (by rfl) (by rfl) (by kernel_rfl) ?_
        simp only [List.map_cons, List.map_nil, List.getD_cons_succ, List.getD_cons_zero]
        go_wp2_with fail
        change wpAnyM _ _ _ _ _ _ _ _ _ _
        clear d0 d1 d2 d3 d4 d5 d6 d7 d8
        clear f0 f1 f2 f3 f4 f5 f6 f7 f8
        refine name_any fun uz hw => ?_
        have y4 : Box uz u0.heap.size #[.int .i64 0, .int .i64 0, .int .i64 0, .int .i64 0, .slice none 0 0, .int .i64 0, .int .i64 0, .int .i64 0, .slice none 0 0] 64 := by rw [← hw]; exact x4.nine_far (by omega)
        obtain ⟨d0, d1, d2, d3, d4, d5, d6, d7, d8⟩ := nine_cells y4
        obtain ⟨f0, f1, f2, f3, f4, f5, f6, f7, f8⟩ := nine_free y4
        refine wpAny_go 26 255 [8] 511 0 (by kernel_rfl) (by kernel_rfl) (fun _ _ _ _ _ h => h) (by kernel_rfl) (by rfl) (by rfl) (by kernel_rfl) ?_
        simp only [List.map_cons, List.map_nil, List.getD_cons_succ, List.getD_cons_zero]
        go_wp2_with fail
        change wpAnyM _ _ _ _ _ _ _ _ _ _
        clear d0 d1 d2 d3 d4 d5 d6 d7 d8
        clear f0 f1 f2 f3 f4 f5 f6 f7 f8
        subst hw
        refine wpAny_endM (by kernel_rfl) (by kernel_rfl) ?_
        go_wp2_with fail
        go_meet
        have z1 := ha.2
        exact Sides7.of x3 x4 ha hd (by omega) (by omega) (by omega) (by omega) (by omega) (by omega) (by omega) (by omega) (by omega) hV
  case rest =>
    obtain ⟨b3, b4, lo, hi, lo4, hi4, aA, aB, cA, cB, ak, al, ck, cl, rfl, rfl, x3, x4, p3, p4, h1, h2, h3, h3b, h4, h5, hb⟩ := hcut
    obtain ⟨W2, rfl⟩ : ∃ x : World, x = wc := ⟨_, rfl⟩
    have d0 : w.heap.size < W1.heap.size := bx0.lt
    replace hp0 : FrIs false W2 0 W1.heap.size _ _ := hp0.keep fun b _ q => hb.block b q
    replace bx0 := bx0.next hb
    have hW1W2 := Lib.hid hb.size
    obtain ⟨_, _, _, _, he, q3, q4⟩ := p3
    cases he
    obtain ⟨_, _, he, l3, m3, q3⟩ := q3
    cases he
    obtain ⟨_, _, he, l4, m4, q4⟩ := q4
    cases he
    have HX3 := Lib.hid x3; have HX4 := Lib.hid x4; have HBX := Lib.hid bx0; have HP4 := Lib.hid p4; have HPP := Lib.hid hp0; have HB0 := Lib.hid (hB.trans (hb.mono hB.size)); have Q3 := Lib.hid q3; have Q4 := Lib.hid q4; have H1 := Lib.hid h1; have H2 := Lib.hid h2; have H3 := Lib.hid h3; have H4 := Lib.hid h4; have H5 := Lib.hid h5; have D0 := Lib.hid d0; have H3B := Lib.hid h3b
    have ml4 := HS0.out.2.1; have ml3 := HS0.out.1
    clear x3 x4 bx0 p4 hp0 hB hb q3 q4 h1 h2 h3 h4 h5 d0 l3 m3 l4 m4 h3b hlo
    go_wp2_with fail
    go_loopg [5] P0.path.length (fun m i wr => ∃ j : Nat, i = .int .i64 (j : Int) ∧ j ≤ P0.path.length ∧ m = P0.path.length - j ∧ Scr lo hi W2 wr)
    case atStart => exact ⟨0, rfl, by omega, by omega, Scr.refl _ _ _⟩
    case round =>
      obtain ⟨j, rfl, hj, hm, hs⟩ := hrel
      have HM := Lib.hid hm; clear hm
      obtain ⟨k0, k1, k2, k3, k4, k5, k6, k7, k8⟩ := nine_cells (hs.box HX3.out H4.out)
      by_cases hlt : j < P0.path.length
      · obtain ⟨g, o, y, rfl, i1, i2, i3, i4⟩ := hs.int_at Q4.out hlt
        have HS := Lib.hid hs; clear hs
        go_wp2_with fail
        go_roundg (P0.path.length - (j + 1))
        case rel => exact ⟨j + 1, by simp, by omega, rfl, HS.out.set_ i3 i1 i2 _⟩
        case measure => have := HM.out; omega
      · obtain rfl : j = P0.path.length := by omega
        clear HM hj hlt
        go_wp2_with fail
        clear k0 k1 k2 k3 k4 k5 k6 k7 k8
        obtain ⟨W3, rfl⟩ : ∃ x : World, x = wr := ⟨_, rfl⟩
        go_loopg [6, 7] P0.pieces.length (fun m i _ wr => ∃ j : Nat, i = .int .i64 (j : Int) ∧ j ≤ P0.pieces.length ∧ m = P0.pieces.length - j ∧ Scr lo hi W2 wr)
        case atStart => exact ⟨0, rfl, by omega, by omega, hs⟩
        case round =>
          clear hs
          obtain ⟨j, rfl, hj, hm, hs⟩ := hrel
          have HM := Lib.hid hm; clear hm
          by_cases hlt : j < P0.pieces.length
          ·
            obtain ⟨k0, k1, k2, k3, k4, k5, k6, k7, k8⟩ := nine_cells (hs.box HX3.out H4.out)
            have HS0 := Lib.hid hs; clear hs
            go_wp2_with fail
            clear k0 k1 k2 k3 k4 k5 k6 k7 k8
            go_loopg [7] P0.pieces[j].sent.length (fun m i ws => ∃ l : Nat, i = .int .i64 (l : Int) ∧ l ≤ P0.pieces[j].sent.length ∧ m = P0.pieces[j].sent.length - l ∧ Scr lo hi W2 ws)
            case atStart => exact ⟨0, rfl, by omega, by omega, HS0.out⟩
            case round =>
              obtain ⟨l, rfl, hl, hm, hs⟩ := hrel
              have HM2 := Lib.hid hm; clear hm
              obtain ⟨k0, k1, k2, k3, k4, k5, k6, k7, k8⟩ := nine_cells (hs.box HX3.out H4.out)
              obtain ⟨g, o, yn, A, c, rfl, r1, r2, r3, r4, r5, r6, r7, r8⟩ := hs.piece_at Q3.out hlt
              have r9 : c ≤ 9223372036854775807 := by unfold maxLen at r7; omega
              clear r7
              obtain ⟨xr, hxr⟩ : ∃ x, P0.pieces[j].sent = x := ⟨_, rfl⟩
              simp only [hxr] at hl r5 r6 r8 HM2 ⊢
              have HXR := Lib.hid hxr; clear hxr
              by_cases hlt2 : l < xr.length
              · obtain ⟨g2, o2, y, rfl, i1, i2, i3, i4⟩ := hs.int_at r8 hlt2
                clear r8
                have HS := Lib.hid hs; clear hs
                go_wp2_with fail
                go_roundg (xr.length - (l + 1))
                case rel => exact ⟨l + 1, by simp, by first | omega | (rw [HXR.out]; omega), by first | rfl | rw [HXR.out], HS.out.set_ i3 i1 i2 _⟩
                case measure => have := HM2.out; omega
              · obtain rfl : l = xr.length := by omega
                clear HM2 hl hlt2 r8
                have HS := Lib.hid hs; clear hs
                go_wp2_with fail
                go_roundg (P0.pieces.length - (j + 1))
                case rel => exact ⟨j + 1, by simp, by omega, rfl, HS.out.set_ r3 r1 r2 _⟩
                case measure => have := HM.out; omega
          · obtain rfl : j = P0.pieces.length := by omega
            obtain ⟨k0, k1, k2, k3, k4, k5, k6, k7, k8⟩ := nine_cells (hs.box HX3.out H4.out)
            clear HM hj hlt
            go_wp2_with fail
            clear k0 k1 k2 k3 k4 k5 k6 k7 k8
            obtain ⟨w5, rfl⟩ : ∃ x : World, x = wr := ⟨_, rfl⟩
            have hsz := hs.size
            have bx0 := hs.box HBX.out (.inl (by have := D0.out; have := H1.out; omega))
            have bx4 := hs.box HX4.out H5.out
            have hp0 := (hs.fr HPP.out (.inl H1.out)).widen (Nat.zero_le _) (hi' := w5.heap.size) (by rw [hsz]; exact hW1W2.out)
            have hp4 := ((hs.fr HP4.out (.inr H2.out)).widen (lo' := 0) (Nat.zero_le _) (hi' := w5.heap.size) (by rw [hsz]; exact H3.out)).soft
            have hB := HB0.out.trans (hs.low.mono (by have := D0.out; have := H1.out; omega))
            clear hs hsz
            replace bx0 := bx0.next ((Below.refl _ _).drew)
            replace bx4 := bx4.next ((Below.refl _ _).drew)
            replace hp0 := hp0.next ((Below.refl _ _).drew)
            replace hp4 := hp4.next ((Below.refl _ _).drew)
            replace hB := hB.drew
            have hE := Ext.refl (w5.drew)
            refine region_go 42 (by kernel_rfl) ?_
            obtain ⟨c0, c1, c2, c3, c4, c5, c6, c7, c8⟩ := nine_cells bx0
            refine wpAny_go 42 0 [0] 1 7 (by kernel_rfl) (by kernel_rfl) (fun _ _ _ _ _ h => h) (by kernel_rfl) (by rfl) (by rfl) (by kernel_rfl) ?_
            simp only [List.map_cons, List.map_nil, List.getD_cons_zero]
            go_wp2_with fail
            change wpAnyM _ _ _ _ _ _ _ _ _ _
            clear c0 c1 c2 c3 c4 c5 c6 c7 c8
            obtain ⟨c0, c1, c2, c3, c4, c5, c6, c7, c8⟩ := nine_cells bx4
            refine wpAny_reads 42 1 [2] 5 6 (by kernel_rfl) (by kernel_rfl) (fun _ _ _ _ _ h => h) (by kernel_rfl) (by rfl) (by rfl) (by kernel_rfl) ?_
            simp only [List.map_cons, List.map_nil, List.getD_cons_succ, List.getD_cons_zero]
            go_wp2_with fail
            change _ → wpAnyM _ _ _ _ _ _ _ _ _ _; intro _
            clear c0 c1 c2 c3 c4 c5 c6 c7 c8
            refine wpAny_oneM 1 7 (by kernel_rfl) (by kernel_rfl) (of_decide_eq_true (by kernel_rfl)) (by rfl) ?_
            simp only [List.getD_cons_succ, List.getD_cons_zero]
            go_wp2_with fail
            refine (cref hp0 HS0.out).mono ?_
            rintro e w6 ⟨⟨GA, Gk, GB, Gl, rfl, hg0⟩, hb⟩
            replace bx0 := bx0.next hb
            replace bx4 := bx4.next hb
            replace hp0 := hp0.next hb
            replace hp4 := hp4.next hb
            replace hE := hE.trans (Ext.below hb (Nat.le_refl _))
            replace hB := hB.trans (hb.mono hB.size)
            clear hb
            go_wp2_with fail
            refine ⟨fun _ => hE, ?_⟩
            refine wpAny_oneM 3 15 (by kernel_rfl) (by kernel_rfl) (of_decide_eq_true (by kernel_rfl)) (by rfl) ?_
            simp only [List.getD_cons_succ, List.getD_cons_zero]
            go_wp2_with fail
            refine (crsame hg0 hp4 (decide_eq_true rfl)).mono ?_
            rintro e w7 ⟨rfl, hb⟩
            replace bx0 := bx0.next hb
            replace bx4 := bx4.next hb
            replace hp0 := hp0.next hb
            replace hp4 := hp4.next hb
            replace hg0 := hg0.next hb
            replace hE := hE.trans (Ext.below hb (Nat.le_refl _))
            replace hB := hB.trans (hb.mono hB.size)
            clear hb
            go_wp2_with fail
            refine ⟨fun _ => hE, ?_⟩
            refine wpAny_go 42 15 [4] 31 3 (by kernel_rfl) (by kernel_rfl) (fun _ _ _ _ _ h => h) (by kernel_rfl) (by rfl) (by rfl) (by kernel_rfl) ?_
            simp only [List.map_cons, List.map_nil, List.getD_cons_succ, List.getD_cons_zero]
            go_wp2_with fail
            change wpAnyM _ _ _ _ _ _ _ _ _ _
            refine wpAny_oneM 5 63 (by kernel_rfl) (by kernel_rfl) (of_decide_eq_true (by kernel_rfl)) (by rfl) ?_
            simp only [List.getD_cons_succ, List.getD_cons_zero]
            go_wp2_with fail
            refine (fixed7_any _).mono ?_
            rintro e w8 ⟨rfl, hb⟩
            replace bx0 := bx0.next hb
            replace bx4 := bx4.next hb
            replace hp0 := hp0.next hb
            replace hp4 := hp4.next hb
            replace hg0 := hg0.next hb
            replace hE := hE.trans (Ext.below hb (Nat.le_refl _))
            replace hB := hB.trans (hb.mono hB.size)
            clear hb
            go_wp2_with fail
            refine ⟨fun _ => hE, ?_⟩
            refine wpAny_go 42 63 [6, 7] 255 0 (by kernel_rfl) (by kernel_rfl) (fun _ _ _ _ _ h => h) (by kernel_rfl) (by rfl) (by rfl) (by kernel_rfl) ?_
            simp only [List.map_cons, List.map_nil, List.getD_cons_succ, List.getD_cons_zero]
            go_wp2_with fail
            change wpAnyM _ _ _ _ _ _ _ _ _ _
            refine wpAny_endM (by kernel_rfl) (by kernel_rfl) ?_
            go_wp2_with fail
            go_ret
            exact ⟨rfl, hB⟩

end Go.Proofs.Ytdfgnmdofjhnkaa.frameOwn
