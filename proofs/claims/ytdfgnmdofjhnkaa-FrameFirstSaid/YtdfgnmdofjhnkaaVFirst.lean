/- FrameFirst: the walk. -/
import Derived.Test.YtdfgnmdofjhnkaaG20
namespace Go.Proofs.Ytdfgnmdofjhnkaa.frameFirst
open Go.RowKit Go.Proofs.Ytdfgnmdofjhnkaa

theorem cget {s : ByteArray} {at_ n i : Nat} {N : Int} {w : World} (hs : s.size ≤ 1000000000) (h : at_ ≤ s.size) (hr : W.rd (s.data.toList.drop at_) 0 0 = .ok n i) (hn : (n : Int) = N) : Calls Try.prog 42 #[.string s, .int .i64 at_] w
    fun x w' => x = .returned (.tuple #[.int .i64 N, .int .i64 (at_ + i : Nat), .int .i64 0]) ∧ Below w.heap.size w w' := by
  subst hn
  have hc := rget_any s at_ w hs h
  rw [hr] at hc
  refine hc.mono ?_
  rintro x w' ⟨rfl, rfl⟩
  exact ⟨by simp [getEnd], Below.refl _ _⟩
theorem two_read {K Y : Int} {l r : List UInt8} (h : l = W.puts [K, Y] ++ r) (hk : 0 ≤ K ∧ K ≤ 2147483647) (hy : 0 ≤ Y ∧ Y ≤ 2147483647) :
    ∃ i0 i1 n0 n1, W.rd l 0 0 = .ok n0 i0 ∧ (n0 : Int) = K ∧ W.rd (l.drop i0) 0 0 = .ok n1 i1 ∧ (n1 : Int) = Y ∧ i0 ≤ l.length := by
  have e : l = W.put K ++ (W.put Y ++ r) := by rw [h]; simp [W.puts]
  refine ⟨(W.put K).length, (W.put Y).length, W.cl K, W.cl Y, by rw [e, W.rd_put], W.cl_of K hk.1 hk.2, by rw [e, List.drop_left, W.rd_put], W.cl_of Y hy.1 hy.2, by rw [e, List.length_append]; omega⟩
theorem first_probe {f : Fr} (h : Fr.right f = true) (h6 : f.kind = 6) : ∃ i0 i1 n0 n1, W.rd (Fr.body f) 0 0 = .ok n0 i0 ∧ (n0 : Int) = f.kind ∧ W.rd ((Fr.body f).drop i0) 0 0 = .ok n1 i1 ∧ (n1 : Int) = f.init ∧ i0 ≤ (Fr.body f).length :=
  two_read (r := W.puts ([f.num, f.count, (f.path.length : Int)] ++ f.path)) (by rw [Fr.body6 h6, h6]; simp [W.puts]) (by omega) (by have := (Fr.right_nums6 h h6).1; omega)
theorem first_other {f : Fr} (h : Fr.right f = true) (h6 : f.kind ≠ 6) : ∃ i0 i1 n0 n1, W.rd (Fr.body f) 0 0 = .ok n0 i0 ∧ (n0 : Int) = f.kind ∧ W.rd ((Fr.body f).drop i0) 0 0 = .ok n1 i1 ∧ (n1 : Int) = f.epoch ∧ i0 ≤ (Fr.body f).length := by
  have he := Fr.epoch_0 h h6
  have hk := Fr.right_kind h
  by_cases h5 : f.kind = 5
  · exact two_read (r := W.puts [(f.pieces.length : Int)] ++ Fr.texts f.pieces) (by rw [Fr.body_5' h5, h5]; simp [W.puts]) (by omega) (by omega)
  · by_cases h0 : f.kind = 0
    · exact two_read (r := W.puts [f.seq, f.letter]) (by rw [Fr.body_4 h5, Fr.heads_0 h0, h0]; simp [W.puts]) (by omega) (by omega)
    · exact two_read (r := []) (by rw [Fr.body_4 h5, Fr.heads_4 h0 h6]) (by omega) (by omega)

set_option maxRecDepth 100000 in
set_option maxHeartbeats 8000000 in
theorem walk_n (v0 : Value) (f0 : Fr) (w : World) (h0 : FrIs false w 0 w.heap.size v0 f0) (hr : Fr.right (Fr.cut f0) = false) :
    Calls Try.prog 13 #[v0] w fun x w' => x = .returned (.bool true) ∧ Below w.heap.size w w' := by
  have HR := Lib.hid hr; clear hr
  obtain ⟨a0A, a0B, a0k, a0l, rfl, _, _⟩ := id h0
  obtain ⟨P0, hP0⟩ : ∃ P, Fr.cut f0 = P := ⟨_, rfl⟩
  have hs0 : P0.Small := hP0 ▸ Fr.cut_small _
  have HP0 := Lib.hid hP0; have HS0 := Lib.hid hs0; clear hP0 hs0
  go_enter Try.func13, Try.ntmps13
  try simp only [List.append_eq, List.cons_append, List.nil_append]
  go_wp2_with fail
  refine name_call fun W0 hW0 => ?_
  have bx0 : Box W0 (w.heap.size) #[.int .i64 f0.kind, .int .i64 f0.epoch, .int .i64 f0.seq, .int .i64 f0.letter, .slice a0A f0.pieces.length a0k, .int .i64 f0.init, .int .i64 f0.num, .int .i64 f0.count, .slice a0B f0.path.length a0l] 58 := hW0 ▸ (Box.new' #[.int .i64 f0.kind, .int .i64 f0.epoch, .int .i64 f0.seq, .int .i64 f0.letter, .slice a0A f0.pieces.length a0k, .int .i64 f0.init, .int .i64 f0.num, .int .i64 f0.count, .slice a0B f0.path.length a0l] 58 (by simp))
  have hB : Below w.heap.size w W0 := hW0 ▸ ((Below.refl _ _).alloc (by first | (simp; done) | (simp; omega)) _)
  have hlo : w.heap.size + 1 ≤ W0.heap.size := hW0 ▸ (by simp)
  clear hW0
  refine (ccut (f := P0) ((h0.keep fun b _ q => hB.block b q).widen (Nat.le_refl _) hB.size) HP0.out).mono ?_
  rintro e v0 ⟨⟨P0A, P0k, P0B, P0l, rfl, hp0⟩, hb⟩
  replace bx0 := bx0.next hb
  replace hp0 := hp0.widen (lo' := w.heap.size + 1) hlo (Nat.le_refl _)
  replace hB := hB.trans (hb.mono hB.size)
  replace hlo := Nat.le_trans hlo hb.size
  clear hb
  obtain ⟨c0, c1, c2, c3, c4, c5, c6, c7, c8⟩ := nine_cells bx0
  obtain ⟨f0, f1, f2, f3, f4, f5, f6, f7, f8⟩ := nine_free bx0
  go_wp2_with fail
  clear c0 c1 c2 c3 c4 c5 c6 c7 c8
  clear f0 f1 f2 f3 f4 f5 f6 f7 f8
  refine name_call fun W hW => ?_
  have qx0 : Box W (w.heap.size) #[.int .i64 P0.kind, .int .i64 P0.epoch, .int .i64 P0.seq, .int .i64 P0.letter, .slice P0A P0.pieces.length P0k, .int .i64 P0.init, .int .i64 P0.num, .int .i64 P0.count, .slice P0B P0.path.length P0l] 58 := by rw [← hW]; exact nine_box bx0
  have qp0 : FrIs false W (w.heap.size + 1) W.heap.size (.agg #[.int .i64 P0.kind, .int .i64 P0.epoch, .int .i64 P0.seq, .int .i64 P0.letter, .slice P0A P0.pieces.length P0k, .int .i64 P0.init, .int .i64 P0.num, .int .i64 P0.count, .slice P0B P0.path.length P0l]) P0 := by rw [← hW]; exact hp0.nine_far (by omega)
  have qB : Below w.heap.size w W := by rw [← hW]; exact nine_below hB (by omega)
  have qlo : w.heap.size + 1 ≤ W.heap.size := by rw [← hW]; exact Nat.le_trans hlo (Nat.le_of_eq nine_size.symm)
  clear bx0 hp0 hB hlo hW
  have bx0 := qx0
  clear qx0
  have hp0 := qp0
  clear qp0
  have hB := qB
  have hlo := qlo
  clear qB qlo
  obtain ⟨W0, rfl⟩ : ∃ x : World, x = W := ⟨_, rfl⟩
  replace hp0 := hp0.zero_
  have hR := HP0.out ▸ HR.out
  have HE := Lib.hid (Fr.enc_not hR)
  have HR1 := Lib.hid hR; clear hR
  obtain ⟨c0, c1, c2, c3, c4, c5, c6, c7, c8⟩ := nine_cells bx0
  refine (cenc (S := ⟨#[]⟩) hp0 (by rw [HE.out.2]) HE.out.1).mono ?_
  rintro e w1 ⟨rfl, hb⟩
  replace bx0 := bx0.next hb
  replace hp0 := hp0.next hb
  replace hB := hB.trans (hb.mono hB.size)
  clear hb
  obtain ⟨d0, d1, d2, d3, d4, d5, d6, d7, d8⟩ := nine_cells bx0
  go_wp2_with fail
  clear d0 d1 d2 d3 d4 d5 d6 d7 d8
  refine (cright hp0 HR1.out).mono ?_
  rintro e w2 ⟨rfl, hb⟩
  replace bx0 := bx0.next hb
  replace hp0 := hp0.next hb
  replace hB := hB.trans (hb.mono hB.size)
  clear hb
  go_wp2_with fail
  refine (fixed7_any _).mono ?_
  rintro e w3 ⟨rfl, hb⟩
  replace bx0 := bx0.next hb
  replace hp0 := hp0.next hb
  replace hB := hB.trans (hb.mono hB.size)
  clear hb
  go_wp2_with fail
  go_ret
  exact ⟨rfl, hB⟩

set_option maxRecDepth 100000 in
set_option maxHeartbeats 8000000 in
theorem walk_y (v0 : Value) (f0 : Fr) (w : World) (h0 : FrIs false w 0 w.heap.size v0 f0) (hr : Fr.right (Fr.cut f0) = true) (hk6 : (Fr.cut f0).kind ≠ 6) :
    Calls Try.prog 13 #[v0] w fun x w' => x = .returned (.bool true) ∧ Below w.heap.size w w' := by
  have HR := Lib.hid hr; clear hr
  obtain ⟨a0A, a0B, a0k, a0l, rfl, _, _⟩ := id h0
  obtain ⟨P0, hP0⟩ : ∃ P, Fr.cut f0 = P := ⟨_, rfl⟩
  have hs0 : P0.Small := hP0 ▸ Fr.cut_small _
  have HP0 := Lib.hid hP0; have HS0 := Lib.hid hs0; clear hP0 hs0
  go_enter Try.func13, Try.ntmps13
  try simp only [List.append_eq, List.cons_append, List.nil_append]
  go_wp2_with fail
  refine name_call fun W0 hW0 => ?_
  have bx0 : Box W0 (w.heap.size) #[.int .i64 f0.kind, .int .i64 f0.epoch, .int .i64 f0.seq, .int .i64 f0.letter, .slice a0A f0.pieces.length a0k, .int .i64 f0.init, .int .i64 f0.num, .int .i64 f0.count, .slice a0B f0.path.length a0l] 58 := hW0 ▸ (Box.new' #[.int .i64 f0.kind, .int .i64 f0.epoch, .int .i64 f0.seq, .int .i64 f0.letter, .slice a0A f0.pieces.length a0k, .int .i64 f0.init, .int .i64 f0.num, .int .i64 f0.count, .slice a0B f0.path.length a0l] 58 (by simp))
  have hB : Below w.heap.size w W0 := hW0 ▸ ((Below.refl _ _).alloc (by first | (simp; done) | (simp; omega)) _)
  have hlo : w.heap.size + 1 ≤ W0.heap.size := hW0 ▸ (by simp)
  clear hW0
  refine (ccut (f := P0) ((h0.keep fun b _ q => hB.block b q).widen (Nat.le_refl _) hB.size) HP0.out).mono ?_
  rintro e v0 ⟨⟨P0A, P0k, P0B, P0l, rfl, hp0⟩, hb⟩
  replace bx0 := bx0.next hb
  replace hp0 := hp0.widen (lo' := w.heap.size + 1) hlo (Nat.le_refl _)
  replace hB := hB.trans (hb.mono hB.size)
  replace hlo := Nat.le_trans hlo hb.size
  clear hb
  obtain ⟨c0, c1, c2, c3, c4, c5, c6, c7, c8⟩ := nine_cells bx0
  obtain ⟨f0, f1, f2, f3, f4, f5, f6, f7, f8⟩ := nine_free bx0
  go_wp2_with fail
  clear c0 c1 c2 c3 c4 c5 c6 c7 c8
  clear f0 f1 f2 f3 f4 f5 f6 f7 f8
  refine name_call fun W hW => ?_
  have qx0 : Box W (w.heap.size) #[.int .i64 P0.kind, .int .i64 P0.epoch, .int .i64 P0.seq, .int .i64 P0.letter, .slice P0A P0.pieces.length P0k, .int .i64 P0.init, .int .i64 P0.num, .int .i64 P0.count, .slice P0B P0.path.length P0l] 58 := by rw [← hW]; exact nine_box bx0
  have qp0 : FrIs false W (w.heap.size + 1) W.heap.size (.agg #[.int .i64 P0.kind, .int .i64 P0.epoch, .int .i64 P0.seq, .int .i64 P0.letter, .slice P0A P0.pieces.length P0k, .int .i64 P0.init, .int .i64 P0.num, .int .i64 P0.count, .slice P0B P0.path.length P0l]) P0 := by rw [← hW]; exact hp0.nine_far (by omega)
  have qB : Below w.heap.size w W := by rw [← hW]; exact nine_below hB (by omega)
  have qlo : w.heap.size + 1 ≤ W.heap.size := by rw [← hW]; exact Nat.le_trans hlo (Nat.le_of_eq nine_size.symm)
  clear bx0 hp0 hB hlo hW
  have bx0 := qx0
  clear qx0
  have hp0 := qp0
  clear qp0
  have hB := qB
  have hlo := qlo
  clear qB qlo
  obtain ⟨W0, rfl⟩ : ∃ x : World, x = W := ⟨_, rfl⟩
  replace hp0 := hp0.zero_
  have hR := HP0.out ▸ HR.out
  obtain ⟨X, hX⟩ : ∃ X, ByteArray.mk (Fr.enc P0).toArray = X := ⟨_, rfl⟩
  have h6 : P0.kind ≠ 6 := HP0.out ▸ hk6
  have H6 := Lib.hid h6; clear h6 hk6
  have HXL := Lib.hid (show X.data.toList = Fr.body P0 by rw [← hX, ← (Fr.enc_yes hR).2])
  have HX := Lib.hid hX; clear hX
  have hxs : X.size = (Fr.body P0).length := by have : X.size = X.data.toList.length := (by rw [Array.length_toList]; rfl); rw [this, HXL.out]
  have hxl := Fr.body_len hR
  have HXS := Lib.hid (show X.size ≤ 1000000000 by omega)
  obtain ⟨i0, i1, n0, n1, h0, k0, h1, k1, hi⟩ := first_other hR H6.out
  have HF0 := Lib.hid h0; have HF1 := Lib.hid h1; have HK0 := Lib.hid k0; have HK1 := Lib.hid k1; have HI := Lib.hid (show i0 ≤ X.size by omega)
  have HR1 := Lib.hid hR
  clear h0 h1 hi hxs hxl hR k0 k1
  obtain ⟨c0, c1, c2, c3, c4, c5, c6, c7, c8⟩ := nine_cells bx0
  refine (cenc hp0 HX.out (Fr.enc_yes HR1.out).1).mono ?_
  rintro e w1 ⟨rfl, hb⟩
  replace bx0 := bx0.next hb
  replace hp0 := hp0.next hb
  replace hB := hB.trans (hb.mono hB.size)
  clear hb
  go_wp2_with fail
  clear c0 c1 c2 c3 c4 c5 c6 c7 c8
  refine (cget HXS.out (Nat.zero_le _) (by rw [HXL.out, List.drop_zero]; exact HF0.out) HK0.out).mono ?_
  rintro e w2 ⟨rfl, hb⟩
  replace bx0 := bx0.next hb
  replace hp0 := hp0.next hb
  replace hB := hB.trans (hb.mono hB.size)
  clear hb
  rw [Nat.zero_add]
  go_wp2_with fail
  refine (cget HXS.out HI.out (by rw [HXL.out]; exact HF1.out) HK1.out).mono ?_
  rintro e w3 ⟨rfl, hb⟩
  replace bx0 := bx0.next hb
  replace hp0 := hp0.next hb
  replace hB := hB.trans (hb.mono hB.size)
  clear hb
  obtain ⟨d0, d1, d2, d3, d4, d5, d6, d7, d8⟩ := nine_cells bx0
  have b6 : (P0.kind == 6) = false := by simpa using H6.out
  go_wp2_with fail
  refine (fixed7_any _).mono ?_
  rintro e w4 ⟨rfl, hb⟩
  replace bx0 := bx0.next hb
  replace hp0 := hp0.next hb
  replace hB := hB.trans (hb.mono hB.size)
  clear hb
  go_wp2_with fail
  go_ret
  exact ⟨rfl, hB⟩

set_option maxRecDepth 100000 in
set_option maxHeartbeats 8000000 in
theorem walk_p (v0 : Value) (f0 : Fr) (w : World) (h0 : FrIs false w 0 w.heap.size v0 f0) (hr : Fr.right (Fr.cut f0) = true) (hk6 : (Fr.cut f0).kind = 6) :
    Calls Try.prog 13 #[v0] w fun x w' => x = .returned (.bool true) ∧ Below w.heap.size w w' := by
  have HR := Lib.hid hr; clear hr
  obtain ⟨a0A, a0B, a0k, a0l, rfl, _, _⟩ := id h0
  obtain ⟨P0, hP0⟩ : ∃ P, Fr.cut f0 = P := ⟨_, rfl⟩
  have hs0 : P0.Small := hP0 ▸ Fr.cut_small _
  have HP0 := Lib.hid hP0; have HS0 := Lib.hid hs0; clear hP0 hs0
  go_enter Try.func13, Try.ntmps13
  try simp only [List.append_eq, List.cons_append, List.nil_append]
  go_wp2_with fail
  refine name_call fun W0 hW0 => ?_
  have bx0 : Box W0 (w.heap.size) #[.int .i64 f0.kind, .int .i64 f0.epoch, .int .i64 f0.seq, .int .i64 f0.letter, .slice a0A f0.pieces.length a0k, .int .i64 f0.init, .int .i64 f0.num, .int .i64 f0.count, .slice a0B f0.path.length a0l] 58 := hW0 ▸ (Box.new' #[.int .i64 f0.kind, .int .i64 f0.epoch, .int .i64 f0.seq, .int .i64 f0.letter, .slice a0A f0.pieces.length a0k, .int .i64 f0.init, .int .i64 f0.num, .int .i64 f0.count, .slice a0B f0.path.length a0l] 58 (by simp))
  have hB : Below w.heap.size w W0 := hW0 ▸ ((Below.refl _ _).alloc (by first | (simp; done) | (simp; omega)) _)
  have hlo : w.heap.size + 1 ≤ W0.heap.size := hW0 ▸ (by simp)
  clear hW0
  refine (ccut (f := P0) ((h0.keep fun b _ q => hB.block b q).widen (Nat.le_refl _) hB.size) HP0.out).mono ?_
  rintro e v0 ⟨⟨P0A, P0k, P0B, P0l, rfl, hp0⟩, hb⟩
  replace bx0 := bx0.next hb
  replace hp0 := hp0.widen (lo' := w.heap.size + 1) hlo (Nat.le_refl _)
  replace hB := hB.trans (hb.mono hB.size)
  replace hlo := Nat.le_trans hlo hb.size
  clear hb
  obtain ⟨c0, c1, c2, c3, c4, c5, c6, c7, c8⟩ := nine_cells bx0
  obtain ⟨f0, f1, f2, f3, f4, f5, f6, f7, f8⟩ := nine_free bx0
  go_wp2_with fail
  clear c0 c1 c2 c3 c4 c5 c6 c7 c8
  clear f0 f1 f2 f3 f4 f5 f6 f7 f8
  refine name_call fun W hW => ?_
  have qx0 : Box W (w.heap.size) #[.int .i64 P0.kind, .int .i64 P0.epoch, .int .i64 P0.seq, .int .i64 P0.letter, .slice P0A P0.pieces.length P0k, .int .i64 P0.init, .int .i64 P0.num, .int .i64 P0.count, .slice P0B P0.path.length P0l] 58 := by rw [← hW]; exact nine_box bx0
  have qp0 : FrIs false W (w.heap.size + 1) W.heap.size (.agg #[.int .i64 P0.kind, .int .i64 P0.epoch, .int .i64 P0.seq, .int .i64 P0.letter, .slice P0A P0.pieces.length P0k, .int .i64 P0.init, .int .i64 P0.num, .int .i64 P0.count, .slice P0B P0.path.length P0l]) P0 := by rw [← hW]; exact hp0.nine_far (by omega)
  have qB : Below w.heap.size w W := by rw [← hW]; exact nine_below hB (by omega)
  have qlo : w.heap.size + 1 ≤ W.heap.size := by rw [← hW]; exact Nat.le_trans hlo (Nat.le_of_eq nine_size.symm)
  clear bx0 hp0 hB hlo hW
  have bx0 := qx0
  clear qx0
  have hp0 := qp0
  clear qp0
  have hB := qB
  have hlo := qlo
  clear qB qlo
  obtain ⟨W0, rfl⟩ : ∃ x : World, x = W := ⟨_, rfl⟩
  replace hp0 := hp0.zero_
  have hR := HP0.out ▸ HR.out
  obtain ⟨X, hX⟩ : ∃ X, ByteArray.mk (Fr.enc P0).toArray = X := ⟨_, rfl⟩
  have h6 : P0.kind = 6 := HP0.out ▸ hk6
  have H6 := Lib.hid h6; clear h6 hk6
  have HXL := Lib.hid (show X.data.toList = Fr.body P0 by rw [← hX, ← (Fr.enc_yes hR).2])
  have HX := Lib.hid hX; clear hX
  have hxs : X.size = (Fr.body P0).length := by have : X.size = X.data.toList.length := (by rw [Array.length_toList]; rfl); rw [this, HXL.out]
  have hxl := Fr.body_len hR
  have HXS := Lib.hid (show X.size ≤ 1000000000 by omega)
  obtain ⟨i0, i1, n0, n1, h0, k0, h1, k1, hi⟩ := first_probe hR H6.out
  have HF0 := Lib.hid h0; have HF1 := Lib.hid h1; have HK0 := Lib.hid k0; have HK1 := Lib.hid k1; have HI := Lib.hid (show i0 ≤ X.size by omega)
  have HR1 := Lib.hid hR
  clear h0 h1 hi hxs hxl hR k0 k1
  obtain ⟨c0, c1, c2, c3, c4, c5, c6, c7, c8⟩ := nine_cells bx0
  refine (cenc hp0 HX.out (Fr.enc_yes HR1.out).1).mono ?_
  rintro e w1 ⟨rfl, hb⟩
  replace bx0 := bx0.next hb
  replace hp0 := hp0.next hb
  replace hB := hB.trans (hb.mono hB.size)
  clear hb
  go_wp2_with fail
  clear c0 c1 c2 c3 c4 c5 c6 c7 c8
  refine (cget HXS.out (Nat.zero_le _) (by rw [HXL.out, List.drop_zero]; exact HF0.out) HK0.out).mono ?_
  rintro e w2 ⟨rfl, hb⟩
  replace bx0 := bx0.next hb
  replace hp0 := hp0.next hb
  replace hB := hB.trans (hb.mono hB.size)
  clear hb
  rw [Nat.zero_add]
  go_wp2_with fail
  refine (cget HXS.out HI.out (by rw [HXL.out]; exact HF1.out) HK1.out).mono ?_
  rintro e w3 ⟨rfl, hb⟩
  replace bx0 := bx0.next hb
  replace hp0 := hp0.next hb
  replace hB := hB.trans (hb.mono hB.size)
  clear hb
  obtain ⟨d0, d1, d2, d3, d4, d5, d6, d7, d8⟩ := nine_cells bx0
  have b6 : (P0.kind == 6) = true := by rw [H6.out]; rfl
  go_wp2_with fail
  refine (fixed7_any _).mono ?_
  rintro e w4 ⟨rfl, hb⟩
  replace bx0 := bx0.next hb
  replace hp0 := hp0.next hb
  replace hB := hB.trans (hb.mono hB.size)
  clear hb
  go_wp2_with fail
  go_ret
  exact ⟨rfl, hB⟩

theorem walk (v0 : Value) (f0 : Fr) (w : World) (h0 : FrIs false w 0 w.heap.size v0 f0) :
    Calls Try.prog 13 #[v0] w fun x w' => x = .returned (.bool true) ∧ Below w.heap.size w w' := by
  cases hr : Fr.right (Fr.cut f0)
  · exact walk_n v0 f0 w h0 hr
  · by_cases h6 : (Fr.cut f0).kind = 6
    · exact walk_p v0 f0 w h0 hr h6
    · exact walk_y v0 f0 w h0 hr h6
end Go.Proofs.Ytdfgnmdofjhnkaa.frameFirst
