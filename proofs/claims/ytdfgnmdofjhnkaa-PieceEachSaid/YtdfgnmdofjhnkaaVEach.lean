/- PieceEach: the walk. -/
import Derived.Test.YtdfgnmdofjhnkaaPE2
namespace Go.Proofs.Ytdfgnmdofjhnkaa
theorem Try.infoPiece : (Try.prog.info? 26).map (fun i => (i.zero, i.size, i.bytes)) = some (some (.agg #[.int .i64 0, .int .i64 0, .int .i64 0, .slice none 0 0, .slice none 0 0, .slice none 0 0]), 6, 96) := by kernel_rfl
theorem Each.congr {w : Go.World} {g : Nat} {f f' : Nat → Pc.Piece} (h : Each w g f) (he : ∀ i, i < 8 → f i = f' i) : Each w g f' := ⟨h.lt, h.free, fun i hi => by rw [← he i hi]; exact h.at_ i hi⟩
namespace pieceEach
open Go.RowKit Go.Proofs.Ytdfgnmdofjhnkaa


set_option maxRecDepth 100000 in
set_option maxHeartbeats 8000000 in
theorem walk_n (v0 : Value) (p0 : Pc.Piece) (a1 : Int) (hw1 : 0 ≤ a1 ∧ a1 ≤ 255) (w : World) (h0 : PieceIs false w 0 w.heap.size v0 p0) (hr : Pc.right (Pc.cut p0) = false) :
    Calls Try.prog 8 #[v0, .int .u8 a1] w fun x w' => x = .returned (.bool true) ∧ Below w.heap.size w w' := by
  have _h := hw1
  clear _h
  have HR := Lib.hid hr; clear hr
  obtain ⟨n0, s0, t0, xs0, ms0, os0⟩ := p0
  obtain ⟨_, _, _, rfl, ⟨A0, k0, rfl, _⟩, ⟨B0, l0, rfl, _⟩, ⟨C0, m0, rfl, _⟩⟩ := id h0
  dsimp only at *
  obtain ⟨P0, hP0⟩ : ∃ P, P = Pc.cut ⟨n0, s0, t0, xs0, ms0, os0⟩ := ⟨_, rfl⟩
  have hsz0 : Pc.sized P0 := hP0 ▸ Pc.cut_sized _
  have HP0 := Lib.hid hP0; clear hP0
  go_enter Try.func8, Try.ntmps8
  try simp only [List.append_eq, List.cons_append, List.nil_append]
  go_wp2_with fail
  refine name_call fun W0 hW0 => ?_
  have bx0 : Box W0 (w.heap.size) #[.int .i64 n0, .int .i64 s0, .int .i64 t0, .slice A0 xs0.length k0, .slice B0 ms0.length l0, .slice C0 os0.length m0] 26 := hW0 ▸ (Box.new' #[.int .i64 n0, .int .i64 s0, .int .i64 t0, .slice A0 xs0.length k0, .slice B0 ms0.length l0, .slice C0 os0.length m0] 26 (by simp))
  have hB : Below w.heap.size w W0 := hW0 ▸ ((Below.refl _ _).alloc (by first | (simp; done) | (simp; omega)) _)
  have hlo : w.heap.size + 1 ≤ W0.heap.size := hW0 ▸ (by simp)
  clear hW0
  refine (cut6_any _ ⟨n0, s0, t0, xs0, ms0, os0⟩ _ ((h0.below hB (Nat.le_refl _)).widen (Nat.le_refl _) hB.size)).mono ?_
  rw [← HP0.out]
  rintro e v0 ⟨⟨x0, rfl, hp0⟩, hb⟩
  replace bx0 := bx0.next hb
  obtain ⟨_, _, _, rfl, ⟨P03, P0k3, rfl, _⟩, ⟨P04, P0k4, rfl, _⟩, ⟨P05, P0k5, rfl, _⟩⟩ := id hp0
  replace hp0 := hp0.widen (lo' := w.heap.size + 1) hlo (Nat.le_refl _)
  replace hB := hB.trans (hb.mono hB.size)
  replace hlo := Nat.le_trans hlo hb.size
  clear hb
  obtain ⟨c0, c1, c2, c3, c4, c5⟩ := bx0.six
  obtain ⟨f0, f1, f2, f3, f4, f5⟩ := bx0.free
  go_wp2_with fail
  clear c0 c1 c2 c3 c4 c5
  clear f0 f1 f2 f3 f4 f5
  refine name_call fun W hW => ?_
  have qx0 : Box W (w.heap.size) #[.int .i64 P0.node, .int .i64 P0.state, .int .i64 P0.steps, .slice P03 P0.sent.length P0k3, .slice P04 P0.inn.length P0k4, .slice P05 P0.out.length P0k5] 26 := by rw [← hW]; exact six_box bx0
  have qp0 : PieceIs true W (w.heap.size + 1) W.heap.size (.agg #[.int .i64 P0.node, .int .i64 P0.state, .int .i64 P0.steps, .slice P03 P0.sent.length P0k3, .slice P04 P0.inn.length P0k4, .slice P05 P0.out.length P0k5]) P0 := by rw [← hW]; exact hp0.six_far (by omega)
  have qB : Below w.heap.size w W := by rw [← hW]; exact six_below' hB (by omega)
  have qlo : w.heap.size + 1 ≤ W.heap.size := by rw [← hW]; exact Nat.le_trans hlo (Nat.le_of_eq six_size.symm)
  clear bx0 hp0 hB hlo hW
  have bx0 := qx0
  clear qx0
  have hp0 := qp0
  clear qp0
  have hB := qB
  have hlo := qlo
  clear qB qlo
  obtain ⟨W0, rfl⟩ : ∃ x : World, x = W := ⟨_, rfl⟩
  replace hp0 := hp0.zero_
  have HR1 := Lib.hid (HP0.out ▸ HR.out)
  refine (ref_any _ P0 _ hp0).mono ?_
  rintro e w1 ⟨rfl, hb⟩
  replace bx0 := bx0.next hb
  replace hp0 := hp0.next hb
  replace hB := hB.trans (hb.mono hB.size)
  clear hb
  go_wp2_with fail
  refine (rrightq hp0 HR1.out).mono ?_
  rintro e w2 ⟨rfl, hb⟩
  replace bx0 := bx0.next hb
  replace hp0 := hp0.next hb
  replace hB := hB.trans (hb.mono hB.size)
  clear hb
  obtain ⟨c0, c1, c2, c3, c4, c5⟩ := bx0.six
  go_wp2_with fail
  clear c0 c1 c2 c3 c4 c5
  refine (rightq hp0 HR1.out).mono ?_
  rintro e w3 ⟨rfl, hb⟩
  replace bx0 := bx0.next hb
  replace hp0 := hp0.next hb
  replace hB := hB.trans (hb.mono hB.size)
  clear hb
  go_wp2_with fail
  refine (fixed6_any _).mono ?_
  rintro e w4 ⟨rfl, hb⟩
  replace bx0 := bx0.next hb
  replace hp0 := hp0.next hb
  replace hB := hB.trans (hb.mono hB.size)
  clear hb
  go_wp2_with fail
  go_ret
  exact ⟨rfl, hB⟩

set_option maxRecDepth 100000 in
set_option maxHeartbeats 8000000 in
theorem walk_y (v0 : Value) (p0 : Pc.Piece) (a1 : Int) (hw1 : 0 ≤ a1 ∧ a1 ≤ 255) (w : World) (h0 : PieceIs false w 0 w.heap.size v0 p0) (hr : Pc.right (Pc.cut p0) = true) :
    Calls Try.prog 8 #[v0, .int .u8 a1] w fun x w' => x = .returned (.bool true) ∧ Below w.heap.size w w' := by
  have HR := Lib.hid hr; clear hr
  obtain ⟨n0, s0, t0, xs0, ms0, os0⟩ := p0
  obtain ⟨_, _, _, rfl, ⟨A0, k0, rfl, _⟩, ⟨B0, l0, rfl, _⟩, ⟨C0, m0, rfl, _⟩⟩ := id h0
  dsimp only at *
  obtain ⟨P0, hP0⟩ : ∃ P, P = Pc.cut ⟨n0, s0, t0, xs0, ms0, os0⟩ := ⟨_, rfl⟩
  have hsz0 : Pc.sized P0 := hP0 ▸ Pc.cut_sized _
  have HP0 := Lib.hid hP0; clear hP0
  go_enter Try.func8, Try.ntmps8
  try simp only [List.append_eq, List.cons_append, List.nil_append]
  go_wp2_with fail
  refine name_call fun W0 hW0 => ?_
  have bx0 : Box W0 (w.heap.size) #[.int .i64 n0, .int .i64 s0, .int .i64 t0, .slice A0 xs0.length k0, .slice B0 ms0.length l0, .slice C0 os0.length m0] 26 := hW0 ▸ (Box.new' #[.int .i64 n0, .int .i64 s0, .int .i64 t0, .slice A0 xs0.length k0, .slice B0 ms0.length l0, .slice C0 os0.length m0] 26 (by simp))
  have hB : Below w.heap.size w W0 := hW0 ▸ ((Below.refl _ _).alloc (by first | (simp; done) | (simp; omega)) _)
  have hlo : w.heap.size + 1 ≤ W0.heap.size := hW0 ▸ (by simp)
  clear hW0
  refine (cut6_any _ ⟨n0, s0, t0, xs0, ms0, os0⟩ _ ((h0.below hB (Nat.le_refl _)).widen (Nat.le_refl _) hB.size)).mono ?_
  rw [← HP0.out]
  rintro e v0 ⟨⟨x0, rfl, hp0⟩, hb⟩
  replace bx0 := bx0.next hb
  obtain ⟨_, _, _, rfl, ⟨P03, P0k3, rfl, _⟩, ⟨P04, P0k4, rfl, _⟩, ⟨P05, P0k5, rfl, _⟩⟩ := id hp0
  replace hp0 := hp0.widen (lo' := w.heap.size + 1) hlo (Nat.le_refl _)
  replace hB := hB.trans (hb.mono hB.size)
  replace hlo := Nat.le_trans hlo hb.size
  clear hb
  obtain ⟨c0, c1, c2, c3, c4, c5⟩ := bx0.six
  obtain ⟨f0, f1, f2, f3, f4, f5⟩ := bx0.free
  go_wp2_with fail
  clear c0 c1 c2 c3 c4 c5
  clear f0 f1 f2 f3 f4 f5
  refine name_call fun W hW => ?_
  have qx0 : Box W (w.heap.size) #[.int .i64 P0.node, .int .i64 P0.state, .int .i64 P0.steps, .slice P03 P0.sent.length P0k3, .slice P04 P0.inn.length P0k4, .slice P05 P0.out.length P0k5] 26 := by rw [← hW]; exact six_box bx0
  have qp0 : PieceIs true W (w.heap.size + 1) W.heap.size (.agg #[.int .i64 P0.node, .int .i64 P0.state, .int .i64 P0.steps, .slice P03 P0.sent.length P0k3, .slice P04 P0.inn.length P0k4, .slice P05 P0.out.length P0k5]) P0 := by rw [← hW]; exact hp0.six_far (by omega)
  have qB : Below w.heap.size w W := by rw [← hW]; exact six_below' hB (by omega)
  have qlo : w.heap.size + 1 ≤ W.heap.size := by rw [← hW]; exact Nat.le_trans hlo (Nat.le_of_eq six_size.symm)
  clear bx0 hp0 hB hlo hW
  have bx0 := qx0
  clear qx0
  have hp0 := qp0
  clear qp0
  have hB := qB
  have hlo := qlo
  clear qB qlo
  obtain ⟨W0, rfl⟩ : ∃ x : World, x = W := ⟨_, rfl⟩
  replace hp0 := hp0.zero_
  have HR1 := Lib.hid (HP0.out ▸ HR.out)
  have HCC := Lib.hid (show Pc.cut P0 = P0 by rw [HP0.out]; exact Pc.cut_cut _)
  obtain ⟨k, hk⟩ : ∃ k : Nat, a1.tmod 5 = (k : Int) := ⟨(a1.tmod 5).toNat, (Int.toNat_of_nonneg (Int.tmod_nonneg _ hw1.1)).symm⟩
  have hk5 : k < 5 := by have := Int.tmod_lt_of_pos a1 (show (0 : Int) < 5 by omega); omega
  have hk2 : a1 % 5 = (k : Int) := by rw [← hk]; exact (Int.tmod_eq_emod_of_nonneg hw1.1).symm
  have HK := Lib.hid hk; have HK2 := Lib.hid hk2
  clear hk hk2
  refine (ref_any _ P0 _ hp0).mono ?_
  rintro e w1 ⟨rfl, hb⟩
  replace bx0 := bx0.next hb
  replace hp0 := hp0.next hb
  replace hB := hB.trans (hb.mono hB.size)
  clear hb
  go_wp2_with fail
  refine (rrightq hp0 HR1.out).mono ?_
  rintro e w2 ⟨rfl, hb⟩
  replace bx0 := bx0.next hb
  replace hp0 := hp0.next hb
  replace hB := hB.trans (hb.mono hB.size)
  clear hb
  go_wp2_with fail
  have hacc := Acc.empty Rep.piece 26 w2
  have hb2 : Below w2.heap.size w2 (w2.alloc (.cells #[] 26)) := (Below.refl _ _).alloc (Nat.le_refl _) _
  have HBW := Lib.hid hB; have HX0 := Lib.hid bx0; have HP := Lib.hid hp0
  clear hB bx0 hp0
  go_loopg [5, 6] (8 : Nat) (fun m v i wr => ∃ j : Nat, i = .int .i64 (j : Int) ∧ j ≤ 8 ∧ m = 8 - j ∧ Acc Rep.piece 26 w2.heap.size wr v (List.replicate j P0) ∧ Below w2.heap.size w2 wr)
  case atStart => exact ⟨0, rfl, by omega, by omega, hacc, hb2⟩
  case round =>
    clear hacc hb2
    obtain ⟨j, rfl, hj, hm, hacc, hb⟩ := hrel
    have HM := Lib.hid hm; clear hm
    have bx0 := HX0.out.next hb
    have hp0 := HP.out.next hb
    by_cases hlt : j < 8
    · obtain ⟨c0, c1, c2, c3, c4, c5⟩ := bx0.six
      have hlen : (List.replicate j P0).length = j := List.length_replicate
      obtain ⟨xj, hxj⟩ : ∃ xj, xj = List.replicate j P0 := ⟨_, rfl⟩
      rw [← hxj] at hacc hlen
      have hxl : xj.length ≤ 1000000 := by omega
      have HXJ := Lib.hid hxj
      clear hxj
      have hj8 : (j : Int) < 8 := by omega
      obtain ⟨AL, cL, rfl, _⟩ := hacc.slice
      have hz := hb.size
      have HA := Lib.hid hacc; clear hacc
      have HLEN := Lib.hid hlen; clear hlen
      go_wp2_with fail
      clear c0 c1 c2 c3 c4 c5
      refine (cut6_any _ P0 _ hp0).mono ?_
      rw [HCC.out]
      rintro e wv ⟨⟨x0, rfl, hq⟩, hbv⟩
      have hvs := hbv.size
      obtain ⟨cs, hcs, hrep⟩ := hq.cells
      obtain ⟨Q3, Q4, Q5, rfl, q3, q4, q5⟩ := id hrep
      subst hcs
      obtain ⟨_, _, rfl, _⟩ := id q3
      obtain ⟨_, _, rfl, _⟩ := id q4
      obtain ⟨_, _, rfl, _⟩ := id q5
      clear q3 q4 q5 hq bx0 hp0
      go_wp2_with (at_builtin; refine wpList_accB (r := Rep.piece) (w0 := wr) (xs := xj) (y := P0) rfl (.tmp 26) (.tmp 29) 55 rfl w2.heap.size 26 Try.infoPiece Try.underlying55 rfl (by omega) (.slice AL xj.length cL) (by rfl) HA.out (fun b _ hb => hbv.block b hb) hvs hz 1 wv.heap.size _ (by rfl) rfl hrep hxl ?_; intro v6 w6 hacc6 hg6 hb6)
      go_roundg (8 - (j + 1))
      case rel => exact ⟨j + 1, by simp, by omega, rfl, by rw [HXJ.out, ← List.replicate_succ'] at hacc6; exact hacc6, hb.trans ((hbv.mono hz).trans hb6)⟩
      case measure => have := HM.out; omega
    · obtain rfl : j = 8 := by omega
      obtain ⟨cL, ⟨g, rfl, hg, hh⟩, hc8, hcm⟩ := Each.of_acc hacc List.length_replicate
      replace hh : Each wr g (fun _ => P0) := hh.congr (fun i hi => by rw [List.getD_eq_getElem?_getD, List.getElem?_replicate, if_pos hi]; rfl)
      have hB0 := HBW.out
      have hBW : Below w2.heap.size w2 wr := hb
      clear hacc hb hlt hj bx0 hp0 HM
      unfold maxLen at hcm
      have hk0 := HK.out; have hk02 := HK2.out
      have hk3 : (0 : Int) ≤ (k : Int) := by omega
      have hk4 : (k : Int) ≤ 4 := by omega
      obtain ⟨_, _, _, e0, _, _, _, _, _, _⟩ := hh.piece (i := 0) (by omega)
      obtain ⟨_, _, _, _, e7, _, _, _, _, _⟩ := hh.piece (i := 1) (by omega)
      obtain ⟨_, _, _, _, _, e14, _, _, _, _⟩ := hh.piece (i := 2) (by omega)
      have f0 := hh.free 0; have f7 := hh.free 7; have f14 := hh.free 14
      simp only [Nat.zero_mul, Nat.one_mul, Nat.reduceMul, Nat.reduceAdd] at e0 e7 e14
      have hh0 : EachTo wr g 0 P0 := ⟨_, hh, fun i hi => absurd hi (by omega), fun i _ => rfl⟩
      go_wp2_with fail
      refine name_wp fun W1 hW1 => ?_
      clear e0 e7 e14 f0 f7 f14 hh
      have hbx : w.heap.size < w2.heap.size := HX0.out.lt
      have hh : EachTo W1 g 3 P0 := by rw [← hW1]; exact ((hh0.node (by omega) _ (Pc.node_no k)).state (by omega) _ (Pc.state_no k)).steps (by omega) _ (Pc.steps_no k)
      have hBW1 : Below w2.heap.size w2 W1 := by rw [← hW1]; exact ((hBW.setCell hg _).setCell hg _).setCell hg _
      clear hh0 hBW hW1
      have hBW := hBW1; clear hBW1
      have bx0 : Box W1 w.heap.size _ _ := (hBW.block _ hbx).trans HX0.out
      have hgb : w.heap.size ≠ g := by omega
      obtain ⟨a3, b3, c3, _, _, _, e3, e4, e5, h6, h7, h8⟩ := hh.slot 3 (by omega) (by omega)
      simp only [Nat.reduceMul, Nat.reduceAdd] at e3 e4 e5
      have ec := e3
      obtain ⟨AS, cS, rfl, hlS, hmS, hAS⟩ := h6
      clear e3 e4 e5 h7 h8
      unfold maxLen at hmS
      obtain ⟨ys, hys⟩ : ∃ ys, ys = P0.sent.take 4 := ⟨_, rfl⟩
      have hcl : (min (P0.sent.length : Int) 4).toNat = ys.length := by rw [hys]; simp; omega
      have hyl : ys.length ≤ 4 := by rw [hys]; simp; omega
      have hm0 : (0 : Int) ≤ min (P0.sent.length : Int) 4 := by omega
      have hm1 : min (P0.sent.length : Int) 4 ≤ (cS : Int) := by omega
      have hA : AtOn Rep.int false W1 (butS W1 g) AS ys := by rw [hys]; exact AtOn.take 4 hAS
      clear hAS
      have b1 : Below W1.drew.heap.size W1.drew ((W1.drew).alloc (.cells #[.int .i64 (501 + (k : Int))] 3)) := ((Below.refl _ _).alloc (Nat.le_refl _) _)
      have o1 : ((W1.drew).alloc (.cells #[.int .i64 (501 + (k : Int))] 3)).ownsRow W1.heap.size 3 Rep.int.size (.slice (some ⟨W1.heap.size, 0, none⟩) 1 1) 1 [.int .i64 (501 + (k : Int))] := by have h := own_lit (w := W1.drew) (size := Rep.int.size) W1.heap.size 3 1 [.int .i64 (501 + (k : Int))] (by simp [Rep.int]) (by first | exact Nat.le_refl _ | (simp; done) | (simp; omega)) (by unfold maxLen; omega); exact h
      have a1 : AtOn Rep.int false ((W1.drew).alloc (.cells #[.int .i64 (501 + (k : Int))] 3)) (butS W1 g) AS ys := hA.keep fun b hb => b1.block b hb.2
      have B1 := Lib.hid b1; have O1 := Lib.hid o1; have AA1 := Lib.hid a1; have EC := Lib.hid ec
      clear b1 o1 a1 hys
      replace hh := hh.next ((Below.refl _ _).drew)
      replace bx0 := bx0.next ((Below.refl _ _).drew)
      replace hBW := hBW.drew
      have hE := Ext.refl (W1.drew)
      refine region_go 8192 (by kernel_rfl) ?_
      refine wpAny_go 8192 0 [1] 2 16 (by kernel_rfl) (by kernel_rfl) (fun _ _ _ _ _ h => h) (by kernel_rfl) (by rfl) (by rfl) (by kernel_rfl) ?_
      simp only [List.map_cons, List.map_nil, List.getD_cons_succ, List.getD_cons_zero]
      go_wp2_with fail
      change wpAnyM _ _ _ _ _ _ _ _ _ _
      refine wpAny_takeM 2 rfl (by kernel_rfl) (by rfl : 2 ||| 2 ^ 2 = 6) (by kernel_rfl) (by kernel_rfl) (by kernel_rfl) (by kernel_rfl) (fun _ _ _ h => h) (.inl ⟨by rfl, fun w => by (go_simp; try with_reducible rfl)⟩) ?_
      obtain ⟨c0, c1, c2, c3, c4, c5⟩ := bx0.six
      refine wpAny_go 8192 6 [4, 5, 6, 7, 8, 9, 10] 2038 8 (by kernel_rfl) (by kernel_rfl) (fun _ _ _ _ _ h => h) (by kernel_rfl) (by rfl) (by rfl) (by kernel_rfl) ?_
      simp only [List.map_cons, List.map_nil, List.getD_cons_succ, List.getD_cons_zero]
      go_wp2_with fail
      change wpAnyM _ _ _ _ _ _ _ _ _ _
      clear c0 c1 c2 c3 c4 c5
      refine wpAny_reads 8192 2038 [0] 2039 7 (by kernel_rfl) (by kernel_rfl) (fun _ _ _ _ _ h => h) (by kernel_rfl) (by rfl) (by rfl) (by kernel_rfl) ?_
      simp only [List.map_cons, List.map_nil, List.getD_cons_zero]
      go_wp2_with fail
      change _ → wpAnyM _ _ _ _ _ _ _ _ _ _; intro _
      refine wpAny_takeM 11 rfl (by kernel_rfl) (by rfl : 2039 ||| 2 ^ 11 = 4087) (by kernel_rfl) (by kernel_rfl) (by kernel_rfl) (by kernel_rfl) (fun _ _ _ h => h) (.inl ⟨by rfl, fun w => by (go_simp; try with_reducible rfl)⟩) ?_
      refine wpAny_go 8192 4087 [12, 3] 8191 4 (by kernel_rfl) (by kernel_rfl) (fun _ _ _ _ _ h => h) (by kernel_rfl) (by rfl) (by rfl) (by kernel_rfl) ?_
      simp only [List.map_cons, List.map_nil, List.getD_cons_succ, List.getD_cons_zero]
      go_wp2_with fail
      change wpAnyM _ _ _ _ _ _ _ _ _ _
      refine wpAny_oneM 13 16383 (by kernel_rfl) (by kernel_rfl) (of_decide_eq_true (by kernel_rfl)) (by rfl) ?_
      simp only [List.getD_cons_succ, List.getD_cons_zero]
      have hgl := hh.lt
      go_wp2_with (at_builtin; refine wpList_appendOn (r := Rep.int) (ys := ys) rfl (.tmp 52) (.tmp 61) 22 rfl W1.heap.size 3 Try.infoInt Try.underlying22 rfl (.slice (some ⟨W1.heap.size, 0, none⟩) 1 1) 1 [.int .i64 (501 + (k : Int))] (by rfl) O1.out _ _ (by rfl) AA1.out (by unfold maxLen; omega) (by omega) (by first | (simp; done) | (simp; omega)) ?_; intro v2 w3 news hn hown2 hg2 hb2 ha2)
      have hb : Below W1.drew.heap.size W1.drew w3 := B1.out.trans hb2
      have hbs : W1.heap.size ≤ w3.heap.size := hb.size
      have hv2 : SliceOn Rep.int false w3 (butS w3 g) v2 ((501 + (k : Int)) :: ys) := own_push hown2 rfl (Rep.all_flat flat_int hn) (fun b h1 h2 => ⟨by have : g < W1.heap.size := hgl; omega, h2⟩)
      obtain ⟨A2, c2, rfl, _⟩ := id hv2
      clear hn hown2 hg2 hb2 ha2 B1 O1 AA1
      replace hh := hh.next hb
      replace bx0 := bx0.next hb
      replace hE := hE.trans (Ext.below hb (Nat.le_refl _))
      replace hBW := hBW.trans (hb.mono hBW.size)
      clear hb
      refine ⟨fun _ => hE, ?_⟩
      have ec2 := hh.slot 3 (by omega) (by omega)
      obtain ⟨_, _, _, _, _, _, e3, e4, e5, _, _, _⟩ := ec2
      simp only [Nat.reduceMul, Nat.reduceAdd] at e3 e4 e5
      have fc := hh.free 21
      refine wpAny_go 8192 16383 [14, 15, 16] 131071 0 (by kernel_rfl) (by kernel_rfl) (fun _ _ _ _ _ h => h) (by kernel_rfl) (by rfl) (by rfl) (by kernel_rfl) ?_
      simp only [List.map_cons, List.map_nil, List.getD_cons_succ, List.getD_cons_zero]
      go_wp2_with fail
      change wpAnyM _ _ _ _ _ _ _ _ _ _
      refine wpAny_endM (by kernel_rfl) (by kernel_rfl) ?_
      go_wp2_with fail
      refine name_wp fun W2 hW2 => ?_
      clear e3 e4 e5 fc
      have hh2 : EachTo W2 g 4 P0 := by rw [← hW2]; exact hh.sent (by omega) hv2 (Pc.sent_no k _)
      have hbx := bx0.lt
      have bx2 : Box W2 w.heap.size #[.int .i64 P0.node, .int .i64 P0.state, .int .i64 P0.steps, .slice P03 P0.sent.length P0k3, .slice P04 P0.inn.length P0k4, .slice P05 P0.out.length P0k5] 26 := by rw [← hW2]; exact (heap_setCell_other _ _ _ _ hgb).trans bx0
      have hBW2 : Below w2.heap.size w2 W2 := by rw [← hW2]; exact hBW.setCell hg _
      clear hh bx0 hBW hv2 hW2 hbx hcl hm0 hm1 hlS hmS hyl hA EC ec hbs
      have hh := hh2; have bx0 := bx2; have hBW := hBW2
      clear hh2 bx2 hBW2
      obtain ⟨a4, b4, c4, _, _, _, e3, e4, e5, h6, h7, h8⟩ := hh.slot 4 (by omega) (by omega)
      simp only [Nat.reduceMul, Nat.reduceAdd] at e3 e4 e5
      have ec := e4
      obtain ⟨AS, cS, rfl, hlS, hmS, hAS⟩ := h7
      clear e3 e4 e5 h6 h8
      unfold maxLen at hmS
      obtain ⟨ys, hys⟩ : ∃ ys, ys = P0.inn.take 4 := ⟨_, rfl⟩
      have hcl : (min (P0.inn.length : Int) 4).toNat = ys.length := by rw [hys]; simp; omega
      have hyl : ys.length ≤ 4 := by rw [hys]; simp; omega
      have hm0 : (0 : Int) ≤ min (P0.inn.length : Int) 4 := by omega
      have hm1 : min (P0.inn.length : Int) 4 ≤ (cS : Int) := by omega
      have hA : AtOn Rep.msg.slice false W2 (butS W2 g) AS ys := by rw [hys]; exact AtOn.take 4 hAS
      clear hAS
      have b1 : Below W2.drew.heap.size W2.drew ((W2.drew.alloc (.cells #[.int .i64 (2 + (k : Int)), .int .i64 0, .int .i64 (1 + (k : Int)), .int .i64 0] 47)).alloc (.cells #[.slice (some ⟨W2.heap.size, 0, none⟩) 2 2] 45)) := (((Below.refl _ _).alloc (Nat.le_refl _) _).alloc (by simp) _)
      have o1 : ((W2.drew.alloc (.cells #[.int .i64 (2 + (k : Int)), .int .i64 0, .int .i64 (1 + (k : Int)), .int .i64 0] 47)).alloc (.cells #[.slice (some ⟨W2.heap.size, 0, none⟩) 2 2] 45)).ownsRow W2.heap.size 45 Rep.msg.slice.size (.slice (some ⟨W2.heap.size + 1, 0, none⟩) 1 1) 1 [.slice (some ⟨W2.heap.size, 0, none⟩) 2 2] := by have h := own_lit (w := W2.drew.alloc (.cells #[.int .i64 (2 + (k : Int)), .int .i64 0, .int .i64 (1 + (k : Int)), .int .i64 0] 47)) (size := Rep.msg.slice.size) W2.heap.size 45 1 [.slice (some ⟨W2.heap.size, 0, none⟩) 2 2] (by simp [Rep.slice]) (by first | exact Nat.le_refl _ | (simp; done) | (simp; omega)) (by unfold maxLen; omega); rw [World.size_alloc] at h; exact h
      have a1 : AtOn Rep.msg.slice false ((W2.drew.alloc (.cells #[.int .i64 (2 + (k : Int)), .int .i64 0, .int .i64 (1 + (k : Int)), .int .i64 0] 47)).alloc (.cells #[.slice (some ⟨W2.heap.size, 0, none⟩) 2 2] 45)) (butS W2 g) AS ys := hA.keep fun b hb => b1.block b hb.2
      have B1 := Lib.hid b1; have O1 := Lib.hid o1; have AA1 := Lib.hid a1; have EC := Lib.hid ec
      clear b1 o1 a1 hys
      replace hh := hh.next ((Below.refl _ _).drew)
      replace bx0 := bx0.next ((Below.refl _ _).drew)
      replace hBW := hBW.drew
      have hE := Ext.refl (W2.drew)
      refine region_go 262144 (by kernel_rfl) ?_
      refine wpAny_takeM 0 rfl (by kernel_rfl) (by rfl : 0 ||| 2 ^ 0 = 1) (by kernel_rfl) (by kernel_rfl) (by kernel_rfl) (by kernel_rfl) (fun _ _ _ h => h) (.inl ⟨by rfl, fun w => by (go_simp; try with_reducible rfl)⟩) ?_
      refine wpAny_takeM 1 rfl (by kernel_rfl) (by rfl : 1 ||| 2 ^ 1 = 3) (by kernel_rfl) (by kernel_rfl) (by kernel_rfl) (by kernel_rfl) (fun _ _ _ h => h) (.inl ⟨by rfl, fun w => by (go_simp; try with_reducible rfl)⟩) ?_
      refine wpAny_takeM 2 rfl (by kernel_rfl) (by rfl : 3 ||| 2 ^ 2 = 7) (by kernel_rfl) (by kernel_rfl) (by kernel_rfl) (by kernel_rfl) (fun _ _ _ h => h) (.inl ⟨by rfl, fun w => by (go_simp; try with_reducible rfl)⟩) ?_
      refine wpAny_go 262144 7 [4] 23 18 (by kernel_rfl) (by kernel_rfl) (fun _ _ _ _ _ h => h) (by kernel_rfl) (by rfl) (by rfl) (by kernel_rfl) ?_
      simp only [List.map_cons, List.map_nil, List.getD_cons_succ, List.getD_cons_zero]
      go_wp2_with fail
      change wpAnyM _ _ _ _ _ _ _ _ _ _
      refine wpAny_takeM 5 rfl (by kernel_rfl) (by rfl : 23 ||| 2 ^ 5 = 55) (by kernel_rfl) (by kernel_rfl) (by kernel_rfl) (by kernel_rfl) (fun _ _ _ h => h) (.inl ⟨by rfl, fun w => by (go_simp; try with_reducible rfl)⟩) ?_
      obtain ⟨c0, c1, c2, c3, c4, c5⟩ := bx0.six
      refine wpAny_go 262144 55 [3, 6, 9, 10, 11, 12, 13, 14, 15] 65151 8 (by kernel_rfl) (by kernel_rfl) (fun _ _ _ _ _ h => h) (by kernel_rfl) (by rfl) (by rfl) (by kernel_rfl) ?_
      simp only [List.map_cons, List.map_nil, List.getD_cons_succ, List.getD_cons_zero]
      go_wp2_with fail
      change wpAnyM _ _ _ _ _ _ _ _ _ _
      clear c0 c1 c2 c3 c4 c5
      refine wpAny_takeM 16 rfl (by kernel_rfl) (by rfl : 65151 ||| 2 ^ 16 = 130687) (by kernel_rfl) (by kernel_rfl) (by kernel_rfl) (by kernel_rfl) (fun _ _ _ h => h) (.inl ⟨by rfl, fun w => by (go_simp; try with_reducible rfl)⟩) ?_
      refine wpAny_go 262144 130687 [17, 7, 8] 262143 4 (by kernel_rfl) (by kernel_rfl) (fun _ _ _ _ _ h => h) (by kernel_rfl) (by rfl) (by rfl) (by kernel_rfl) ?_
      simp only [List.map_cons, List.map_nil, List.getD_cons_succ, List.getD_cons_zero]
      go_wp2_with fail
      change wpAnyM _ _ _ _ _ _ _ _ _ _
      refine wpAny_oneM 18 524287 (by kernel_rfl) (by kernel_rfl) (of_decide_eq_true (by kernel_rfl)) (by rfl) ?_
      simp only [List.getD_cons_succ, List.getD_cons_zero]
      have hgl := hh.lt
      go_wp2_with (at_builtin; refine wpList_appendOn (r := Rep.msg.slice) (ys := ys) rfl (.tmp 73) (.tmp 82) 23 rfl W2.heap.size 45 Try.infoMsgs Try.underlying23 rfl (.slice (some ⟨W2.heap.size + 1, 0, none⟩) 1 1) 1 [.slice (some ⟨W2.heap.size, 0, none⟩) 2 2] (by rfl) O1.out _ _ (by rfl) AA1.out (by unfold maxLen; omega) (by omega) (by first | (simp; done) | (simp; omega)) ?_; intro v2 w4 news hn hown2 hg2 hb2 ha2)
      have hb : Below W2.drew.heap.size W2.drew w4 := B1.out.trans hb2
      have hbs : W2.heap.size ≤ w4.heap.size := hb.size
      have hin : w4.heap[W2.heap.size]? = some (.cells #[.int .i64 (2 + (k : Int)), .int .i64 0, .int .i64 (1 + (k : Int)), .int .i64 0] 47 (0, 0)) := (hg2.block _ (by simp; omega) (by simp [Value.ownBlock])).trans ((heap_alloc_old _ _ (by simp)).trans (heap_alloc_new _ _))
      have hv2 : SliceOn Rep.msg.slice false w4 (butS w4 g) v2 (([(2 + (k : Int), (0 : Int)), (1 + (k : Int), 0)]) :: ys) := own_push hown2 ⟨_, rfl, SliceOn.of_block (r := Rep.msg) (cells := [.int .i64 (2 + (k : Int)), .int .i64 0, .int .i64 (1 + (k : Int)), .int .i64 0]) hin ⟨[_, _], [_, _], rfl, rfl, [_, _], [], rfl, rfl, rfl⟩ ⟨Nat.ne_of_lt (Nat.lt_of_lt_of_le hgl (Nat.le_refl _)) |>.symm, lt_of_block hin⟩ rfl (by simp) (by unfold maxLen; omega)⟩ (Rep.all_widen (fun b hb => ⟨hb.1, Nat.lt_of_lt_of_le hb.2 hbs⟩) (Rep.all_keep (fun b hb => hb2.block b hb.2) hn)) (fun b h1 h2 => ⟨by have : g < W2.heap.size := hgl; omega, h2⟩)
      obtain ⟨A2, c2, rfl, _⟩ := id hv2
      clear hn hown2 hg2 hb2 ha2 B1 O1 AA1 hin
      replace hh := hh.next hb
      replace bx0 := bx0.next hb
      replace hE := hE.trans (Ext.below hb (Nat.le_refl _))
      replace hBW := hBW.trans (hb.mono hBW.size)
      clear hb
      refine ⟨fun _ => hE, ?_⟩
      have ec2 := hh.slot 4 (by omega) (by omega)
      obtain ⟨_, _, _, _, _, _, e3, e4, e5, _, _, _⟩ := ec2
      simp only [Nat.reduceMul, Nat.reduceAdd] at e3 e4 e5
      have fc := hh.free 28
      refine wpAny_go 262144 524287 [19, 20, 21] 4194303 0 (by kernel_rfl) (by kernel_rfl) (fun _ _ _ _ _ h => h) (by kernel_rfl) (by rfl) (by rfl) (by kernel_rfl) ?_
      simp only [List.map_cons, List.map_nil, List.getD_cons_succ, List.getD_cons_zero]
      go_wp2_with fail
      change wpAnyM _ _ _ _ _ _ _ _ _ _
      refine wpAny_endM (by kernel_rfl) (by kernel_rfl) ?_
      go_wp2_with fail
      refine name_wp fun W3 hW3 => ?_
      clear e3 e4 e5 fc
      have hh2 : EachTo W3 g 5 P0 := by rw [← hW3]; exact hh.inn (by omega) hv2 (Pc.inn_no _ _ _ _ (by omega) _)
      have hbx := bx0.lt
      have bx2 : Box W3 w.heap.size #[.int .i64 P0.node, .int .i64 P0.state, .int .i64 P0.steps, .slice P03 P0.sent.length P0k3, .slice P04 P0.inn.length P0k4, .slice P05 P0.out.length P0k5] 26 := by rw [← hW3]; exact (heap_setCell_other _ _ _ _ hgb).trans bx0
      have hBW2 : Below w2.heap.size w2 W3 := by rw [← hW3]; exact hBW.setCell hg _
      clear hh bx0 hBW hv2 hW3 hbx hcl hm0 hm1 hlS hmS hyl hA EC ec hbs
      have hh := hh2; have bx0 := bx2; have hBW := hBW2
      clear hh2 bx2 hBW2
      obtain ⟨a5, b5, c5, _, _, _, e3, e4, e5, h6, h7, h8⟩ := hh.slot 5 (by omega) (by omega)
      simp only [Nat.reduceMul, Nat.reduceAdd] at e3 e4 e5
      have ec := e5
      obtain ⟨AS, cS, rfl, hlS, hmS, hAS⟩ := h8
      clear e3 e4 e5 h6 h7
      unfold maxLen at hmS
      obtain ⟨ys, hys⟩ : ∃ ys, ys = P0.out.take 4 := ⟨_, rfl⟩
      have hcl : (min (P0.out.length : Int) 4).toNat = ys.length := by rw [hys]; simp; omega
      have hyl : ys.length ≤ 4 := by rw [hys]; simp; omega
      have hm0 : (0 : Int) ≤ min (P0.out.length : Int) 4 := by omega
      have hm1 : min (P0.out.length : Int) 4 ≤ (cS : Int) := by omega
      have hA : AtOn Rep.int.slice false W3 (butS W3 g) AS ys := by rw [hys]; exact AtOn.take 4 hAS
      clear hAS
      have b1 : Below W3.drew.heap.size W3.drew ((W3.drew.alloc (.cells #[.int .i64 0, .int .i64 (4 + (k : Int))] 3)).alloc (.cells #[.slice (some ⟨W3.heap.size, 0, none⟩) 2 2] 22)) := (((Below.refl _ _).alloc (Nat.le_refl _) _).alloc (by simp) _)
      have o1 : ((W3.drew.alloc (.cells #[.int .i64 0, .int .i64 (4 + (k : Int))] 3)).alloc (.cells #[.slice (some ⟨W3.heap.size, 0, none⟩) 2 2] 22)).ownsRow W3.heap.size 22 Rep.int.slice.size (.slice (some ⟨W3.heap.size + 1, 0, none⟩) 1 1) 1 [.slice (some ⟨W3.heap.size, 0, none⟩) 2 2] := by have h := own_lit (w := W3.drew.alloc (.cells #[.int .i64 0, .int .i64 (4 + (k : Int))] 3)) (size := Rep.int.slice.size) W3.heap.size 22 1 [.slice (some ⟨W3.heap.size, 0, none⟩) 2 2] (by simp [Rep.slice]) (by first | exact Nat.le_refl _ | (simp; done) | (simp; omega)) (by unfold maxLen; omega); rw [World.size_alloc] at h; exact h
      have a1 : AtOn Rep.int.slice false ((W3.drew.alloc (.cells #[.int .i64 0, .int .i64 (4 + (k : Int))] 3)).alloc (.cells #[.slice (some ⟨W3.heap.size, 0, none⟩) 2 2] 22)) (butS W3 g) AS ys := hA.keep fun b hb => b1.block b hb.2
      have B1 := Lib.hid b1; have O1 := Lib.hid o1; have AA1 := Lib.hid a1; have EC := Lib.hid ec
      clear b1 o1 a1 hys
      replace hh := hh.next ((Below.refl _ _).drew)
      replace bx0 := bx0.next ((Below.refl _ _).drew)
      replace hBW := hBW.drew
      have hE := Ext.refl (W3.drew)
      refine region_go 16384 (by kernel_rfl) ?_
      refine wpAny_go 16384 0 [1] 2 17 (by kernel_rfl) (by kernel_rfl) (fun _ _ _ _ _ h => h) (by kernel_rfl) (by rfl) (by rfl) (by kernel_rfl) ?_
      simp only [List.map_cons, List.map_nil, List.getD_cons_succ, List.getD_cons_zero]
      go_wp2_with fail
      change wpAnyM _ _ _ _ _ _ _ _ _ _
      refine wpAny_takeM 2 rfl (by kernel_rfl) (by rfl : 2 ||| 2 ^ 2 = 6) (by kernel_rfl) (by kernel_rfl) (by kernel_rfl) (by kernel_rfl) (fun _ _ _ h => h) (.inl ⟨by rfl, fun w => by (go_simp; try with_reducible rfl)⟩) ?_
      obtain ⟨c0, c1, c2, c3, c4, c5⟩ := bx0.six
      refine wpAny_go 16384 6 [5, 6, 7, 8, 9, 10, 11] 4070 9 (by kernel_rfl) (by kernel_rfl) (fun _ _ _ _ _ h => h) (by kernel_rfl) (by rfl) (by rfl) (by kernel_rfl) ?_
      simp only [List.map_cons, List.map_nil, List.getD_cons_succ, List.getD_cons_zero]
      go_wp2_with fail
      change wpAnyM _ _ _ _ _ _ _ _ _ _
      clear c0 c1 c2 c3 c4 c5
      refine wpAny_reads 16384 4070 [0] 4071 8 (by kernel_rfl) (by kernel_rfl) (fun _ _ _ _ _ h => h) (by kernel_rfl) (by rfl) (by rfl) (by kernel_rfl) ?_
      simp only [List.map_cons, List.map_nil, List.getD_cons_zero]
      go_wp2_with fail
      change _ → wpAnyM _ _ _ _ _ _ _ _ _ _; intro _
      refine wpAny_takeM 12 rfl (by kernel_rfl) (by rfl : 4071 ||| 2 ^ 12 = 8167) (by kernel_rfl) (by kernel_rfl) (by kernel_rfl) (by kernel_rfl) (fun _ _ _ h => h) (.inl ⟨by rfl, fun w => by (go_simp; try with_reducible rfl)⟩) ?_
      refine wpAny_go 16384 8167 [13, 3, 4] 16383 4 (by kernel_rfl) (by kernel_rfl) (fun _ _ _ _ _ h => h) (by kernel_rfl) (by rfl) (by rfl) (by kernel_rfl) ?_
      simp only [List.map_cons, List.map_nil, List.getD_cons_succ, List.getD_cons_zero]
      go_wp2_with fail
      change wpAnyM _ _ _ _ _ _ _ _ _ _
      refine wpAny_oneM 14 32767 (by kernel_rfl) (by kernel_rfl) (of_decide_eq_true (by kernel_rfl)) (by rfl) ?_
      simp only [List.getD_cons_succ, List.getD_cons_zero]
      have hgl := hh.lt
      go_wp2_with (at_builtin; refine wpList_appendOn (r := Rep.int.slice) (ys := ys) rfl (.tmp 90) (.tmp 99) 24 rfl W3.heap.size 22 Try.infoInts Try.underlying24 rfl (.slice (some ⟨W3.heap.size + 1, 0, none⟩) 1 1) 1 [.slice (some ⟨W3.heap.size, 0, none⟩) 2 2] (by rfl) O1.out _ _ (by rfl) AA1.out (by unfold maxLen; omega) (by omega) (by first | (simp; done) | (simp; omega)) ?_; intro v2 w5 news hn hown2 hg2 hb2 ha2)
      have hb : Below W3.drew.heap.size W3.drew w5 := B1.out.trans hb2
      have hbs : W3.heap.size ≤ w5.heap.size := hb.size
      have hin : w5.heap[W3.heap.size]? = some (.cells #[.int .i64 0, .int .i64 (4 + (k : Int))] 3 (0, 0)) := (hg2.block _ (by simp; omega) (by simp [Value.ownBlock])).trans ((heap_alloc_old _ _ (by simp)).trans (heap_alloc_new _ _))
      have hv2 : SliceOn Rep.int.slice false w5 (butS w5 g) v2 (([(0 : Int), 4 + (k : Int)]) :: ys) := own_push hown2 ⟨_, rfl, SliceOn.of_block (r := Rep.int) (cells := [.int .i64 0, .int .i64 (4 + (k : Int))]) hin (ints_all _ _ _ [0, 4 + (k : Int)]) ⟨Nat.ne_of_lt (Nat.lt_of_lt_of_le hgl (Nat.le_refl _)) |>.symm, lt_of_block hin⟩ rfl (by simp) (by unfold maxLen; omega)⟩ (Rep.all_widen (fun b hb => ⟨hb.1, Nat.lt_of_lt_of_le hb.2 hbs⟩) (Rep.all_keep (fun b hb => hb2.block b hb.2) hn)) (fun b h1 h2 => ⟨by have : g < W3.heap.size := hgl; omega, h2⟩)
      obtain ⟨A2, c2, rfl, _⟩ := id hv2
      clear hn hown2 hg2 hb2 ha2 B1 O1 AA1 hin
      replace hh := hh.next hb
      replace bx0 := bx0.next hb
      replace hE := hE.trans (Ext.below hb (Nat.le_refl _))
      replace hBW := hBW.trans (hb.mono hBW.size)
      clear hb
      refine ⟨fun _ => hE, ?_⟩
      have ec2 := hh.slot 5 (by omega) (by omega)
      obtain ⟨_, _, _, _, _, _, e3, e4, e5, _, _, _⟩ := ec2
      simp only [Nat.reduceMul, Nat.reduceAdd] at e3 e4 e5
      have fc := hh.free 35
      refine wpAny_go 16384 32767 [15, 16, 17] 262143 0 (by kernel_rfl) (by kernel_rfl) (fun _ _ _ _ _ h => h) (by kernel_rfl) (by rfl) (by rfl) (by kernel_rfl) ?_
      simp only [List.map_cons, List.map_nil, List.getD_cons_succ, List.getD_cons_zero]
      go_wp2_with fail
      change wpAnyM _ _ _ _ _ _ _ _ _ _
      refine wpAny_endM (by kernel_rfl) (by kernel_rfl) ?_
      obtain ⟨_, _, _, _, _, _, e39, _, _, _, _, _⟩ := hh.slot 6 (by omega) (by omega)
      simp only [Nat.reduceMul, Nat.reduceAdd] at e39
      have f39 := hh.free 39
      have hgl := hh.lt
      go_wp2_with fail
      refine name_wp fun W4 hW4 => ?_
      clear e3 e4 e5 fc e39 f39
      have qA : EachTo (w5.setCell ⟨g, 35, none⟩ (.slice A2 (ys.length + 1) c2)) g 6 P0 := hh.out (by omega) hv2 (Pc.out_no k _)
      have bA : Box (w5.setCell ⟨g, 35, none⟩ (.slice A2 (ys.length + 1) c2)) w.heap.size #[.int .i64 P0.node, .int .i64 P0.state, .int .i64 P0.steps, .slice P03 P0.sent.length P0k3, .slice P04 P0.inn.length P0k4, .slice P05 P0.out.length P0k5] 26 := (heap_setCell_other _ _ _ _ hgb).trans bx0
      have hBA : Below w2.heap.size w2 (w5.setCell ⟨g, 35, none⟩ (.slice A2 (ys.length + 1) c2)) := hBW.setCell hg _
      obtain ⟨A, hA⟩ : ∃ A, A = w5.setCell ⟨g, 35, none⟩ (.slice A2 (ys.length + 1) c2) := ⟨_, rfl⟩
      rw [← hA] at qA bA hBA hW4
      have hAs : A.heap.size = w5.heap.size := by rw [hA]; simp [World.setCell]
      clear hA hh bx0 hBW hv2
      obtain ⟨O, hO⟩ : ∃ O, O = Obj.cells #[.int .i64 0, .int .i64 0, .int .i64 0, .int .i64 0, .int .i64 0, .int .i64 (k : Int)] 3 := ⟨_, rfl⟩
      have hal : Below A.heap.size A (A.alloc O) := (Below.refl _ _).alloc (Nat.le_refl _) _
      have hob : (A.alloc O).heap[w5.heap.size]? = some (.cells #[.int .i64 0, .int .i64 0, .int .i64 0, .int .i64 0, .int .i64 0, .int .i64 (k : Int)] 3 (0, 0)) := by rw [← hAs, ← hO]; exact heap_alloc_new A O
      have q2 : EachTo ((A.alloc O).setCell ⟨g, 39, none⟩ (.slice (some ⟨w5.heap.size, 0, none⟩) 6 6)) g 7 P0 := (qA.next hal).sent (by omega) (SliceOn.of_block (cells := [.int .i64 0, .int .i64 0, .int .i64 0, .int .i64 0, .int .i64 0, .int .i64 (k : Int)]) hob (ints_all _ _ _ [0, 0, 0, 0, 0, (k : Int)]) ⟨by omega, lt_of_block hob⟩ rfl (by simp) (by unfold maxLen; omega)) (Pc.sent6_no k)
      have b2 : Box ((A.alloc O).setCell ⟨g, 39, none⟩ (.slice (some ⟨w5.heap.size, 0, none⟩) 6 6)) w.heap.size #[.int .i64 P0.node, .int .i64 P0.state, .int .i64 P0.steps, .slice P03 P0.sent.length P0k3, .slice P04 P0.inn.length P0k4, .slice P05 P0.out.length P0k5] 26 := (heap_setCell_other _ _ _ _ hgb).trans (bA.next hal)
      have hB2 : Below w2.heap.size w2 ((A.alloc O).setCell ⟨g, 39, none⟩ (.slice (some ⟨w5.heap.size, 0, none⟩) 6 6)) := (hBA.trans (hal.mono hBA.size)).setCell hg _
      rw [World.setCell_alloc_past _ _ _ _ qA.lt, hO, hW4] at q2 b2 hB2
      clear qA bA hBA hal hob hW4 hAs hO hgl hcl hm0 hm1 hlS hmS hyl hA EC ec hbs
      have hh := q2; have bx0 := b2; have hBW := hB2
      clear q2 b2 hB2
      obtain ⟨a7, b7, c7, _, _, _, e3, e4, e5, h6, h7, h8⟩ := hh.slot 7 (by omega) (by omega)
      simp only [Nat.reduceMul, Nat.reduceAdd] at e3 e4 e5
      have ec := e4
      obtain ⟨AS, cS, rfl, hlS, hmS, hAS⟩ := h7
      clear e3 e4 e5 h6 h8
      unfold maxLen at hmS
      obtain ⟨ys, hys⟩ : ∃ ys, ys = P0.inn.take 4 := ⟨_, rfl⟩
      have hcl : (min (P0.inn.length : Int) 4).toNat = ys.length := by rw [hys]; simp; omega
      have hyl : ys.length ≤ 4 := by rw [hys]; simp; omega
      have hm0 : (0 : Int) ≤ min (P0.inn.length : Int) 4 := by omega
      have hm1 : min (P0.inn.length : Int) 4 ≤ (cS : Int) := by omega
      have hA : AtOn Rep.msg.slice false W4 (butS W4 g) AS ys := by rw [hys]; exact AtOn.take 4 hAS
      clear hAS
      have b1 : Below W4.drew.heap.size W4.drew ((W4.drew.alloc (.cells #[.int .i64 (-(k : Int)), .int .i64 0] 47)).alloc (.cells #[.slice (some ⟨W4.heap.size, 0, none⟩) 1 1] 45)) := (((Below.refl _ _).alloc (Nat.le_refl _) _).alloc (by simp) _)
      have o1 : ((W4.drew.alloc (.cells #[.int .i64 (-(k : Int)), .int .i64 0] 47)).alloc (.cells #[.slice (some ⟨W4.heap.size, 0, none⟩) 1 1] 45)).ownsRow W4.heap.size 45 Rep.msg.slice.size (.slice (some ⟨W4.heap.size + 1, 0, none⟩) 1 1) 1 [.slice (some ⟨W4.heap.size, 0, none⟩) 1 1] := by have h := own_lit (w := W4.drew.alloc (.cells #[.int .i64 (-(k : Int)), .int .i64 0] 47)) (size := Rep.msg.slice.size) W4.heap.size 45 1 [.slice (some ⟨W4.heap.size, 0, none⟩) 1 1] (by simp [Rep.slice]) (by first | exact Nat.le_refl _ | (simp; done) | (simp; omega)) (by unfold maxLen; omega); rw [World.size_alloc] at h; exact h
      have a1 : AtOn Rep.msg.slice false ((W4.drew.alloc (.cells #[.int .i64 (-(k : Int)), .int .i64 0] 47)).alloc (.cells #[.slice (some ⟨W4.heap.size, 0, none⟩) 1 1] 45)) (butS W4 g) AS ys := hA.keep fun b hb => b1.block b hb.2
      have B1 := Lib.hid b1; have O1 := Lib.hid o1; have AA1 := Lib.hid a1; have EC := Lib.hid ec
      clear b1 o1 a1 hys
      replace hh := hh.next ((Below.refl _ _).drew)
      replace bx0 := bx0.next ((Below.refl _ _).drew)
      replace hBW := hBW.drew
      have hE := Ext.refl (W4.drew)
      refine region_go 32768 (by kernel_rfl) ?_
      refine wpAny_go 32768 0 [1] 2 18 (by kernel_rfl) (by kernel_rfl) (fun _ _ _ _ _ h => h) (by kernel_rfl) (by rfl) (by rfl) (by kernel_rfl) ?_
      simp only [List.map_cons, List.map_nil, List.getD_cons_succ, List.getD_cons_zero]
      go_wp2_with fail
      change wpAnyM _ _ _ _ _ _ _ _ _ _
      refine wpAny_takeM 2 rfl (by kernel_rfl) (by rfl : 2 ||| 2 ^ 2 = 6) (by kernel_rfl) (by kernel_rfl) (by kernel_rfl) (by kernel_rfl) (fun _ _ _ h => h) (.inl ⟨by rfl, fun w => by (go_simp; try with_reducible rfl)⟩) ?_
      obtain ⟨c0, c1, c2, c3, c4, c5⟩ := bx0.six
      refine wpAny_go 32768 6 [3, 6, 7, 8, 9, 10, 11, 12] 8142 9 (by kernel_rfl) (by kernel_rfl) (fun _ _ _ _ _ h => h) (by kernel_rfl) (by rfl) (by rfl) (by kernel_rfl) ?_
      simp only [List.map_cons, List.map_nil, List.getD_cons_succ, List.getD_cons_zero]
      go_wp2_with fail
      change wpAnyM _ _ _ _ _ _ _ _ _ _
      clear c0 c1 c2 c3 c4 c5
      refine wpAny_reads 32768 8142 [0] 8143 8 (by kernel_rfl) (by kernel_rfl) (fun _ _ _ _ _ h => h) (by kernel_rfl) (by rfl) (by rfl) (by kernel_rfl) ?_
      simp only [List.map_cons, List.map_nil, List.getD_cons_zero]
      go_wp2_with fail
      change _ → wpAnyM _ _ _ _ _ _ _ _ _ _; intro _
      refine wpAny_takeM 13 rfl (by kernel_rfl) (by rfl : 8143 ||| 2 ^ 13 = 16335) (by kernel_rfl) (by kernel_rfl) (by kernel_rfl) (by kernel_rfl) (fun _ _ _ h => h) (.inl ⟨by rfl, fun w => by (go_simp; try with_reducible rfl)⟩) ?_
      refine wpAny_go 32768 16335 [14, 4, 5] 32767 4 (by kernel_rfl) (by kernel_rfl) (fun _ _ _ _ _ h => h) (by kernel_rfl) (by rfl) (by rfl) (by kernel_rfl) ?_
      simp only [List.map_cons, List.map_nil, List.getD_cons_succ, List.getD_cons_zero]
      go_wp2_with fail
      change wpAnyM _ _ _ _ _ _ _ _ _ _
      refine wpAny_oneM 15 65535 (by kernel_rfl) (by kernel_rfl) (of_decide_eq_true (by kernel_rfl)) (by rfl) ?_
      simp only [List.getD_cons_succ, List.getD_cons_zero]
      have hgl := hh.lt
      go_wp2_with (at_builtin; refine wpList_appendOn (r := Rep.msg.slice) (ys := ys) rfl (.tmp 113) (.tmp 122) 23 rfl W4.heap.size 45 Try.infoMsgs Try.underlying23 rfl (.slice (some ⟨W4.heap.size + 1, 0, none⟩) 1 1) 1 [.slice (some ⟨W4.heap.size, 0, none⟩) 1 1] (by rfl) O1.out _ _ (by rfl) AA1.out (by unfold maxLen; omega) (by omega) (by first | (simp; done) | (simp; omega)) ?_; intro v2 w6 news hn hown2 hg2 hb2 ha2)
      have hb : Below W4.drew.heap.size W4.drew w6 := B1.out.trans hb2
      have hbs : W4.heap.size ≤ w6.heap.size := hb.size
      have hin : w6.heap[W4.heap.size]? = some (.cells #[.int .i64 (-(k : Int)), .int .i64 0] 47 (0, 0)) := (hg2.block _ (by simp; omega) (by simp [Value.ownBlock])).trans ((heap_alloc_old _ _ (by simp)).trans (heap_alloc_new _ _))
      have hv2 : SliceOn Rep.msg.slice false w6 (butS w6 g) v2 (([(-(k : Int), (0 : Int))]) :: ys) := own_push hown2 ⟨_, rfl, SliceOn.of_block (r := Rep.msg) (cells := [.int .i64 (-(k : Int)), .int .i64 0]) hin ⟨[_, _], [], rfl, rfl, rfl⟩ ⟨Nat.ne_of_lt (Nat.lt_of_lt_of_le hgl (Nat.le_refl _)) |>.symm, lt_of_block hin⟩ rfl (by simp) (by unfold maxLen; omega)⟩ (Rep.all_widen (fun b hb => ⟨hb.1, Nat.lt_of_lt_of_le hb.2 hbs⟩) (Rep.all_keep (fun b hb => hb2.block b hb.2) hn)) (fun b h1 h2 => ⟨by have : g < W4.heap.size := hgl; omega, h2⟩)
      obtain ⟨A2, c2, rfl, _⟩ := id hv2
      clear hn hown2 hg2 hb2 ha2 B1 O1 AA1 hin
      replace hh := hh.next hb
      replace bx0 := bx0.next hb
      replace hE := hE.trans (Ext.below hb (Nat.le_refl _))
      replace hBW := hBW.trans (hb.mono hBW.size)
      clear hb
      refine ⟨fun _ => hE, ?_⟩
      have ec2 := hh.slot 7 (by omega) (by omega)
      obtain ⟨_, _, _, _, _, _, e3, e4, e5, _, _, _⟩ := ec2
      simp only [Nat.reduceMul, Nat.reduceAdd] at e3 e4 e5
      have fc := hh.free 46
      refine wpAny_go 32768 65535 [16, 17, 18] 524287 0 (by kernel_rfl) (by kernel_rfl) (fun _ _ _ _ _ h => h) (by kernel_rfl) (by rfl) (by rfl) (by kernel_rfl) ?_
      simp only [List.map_cons, List.map_nil, List.getD_cons_succ, List.getD_cons_zero]
      go_wp2_with fail
      change wpAnyM _ _ _ _ _ _ _ _ _ _
      refine wpAny_endM (by kernel_rfl) (by kernel_rfl) ?_
      go_wp2_with fail
      refine name_wp fun W5 hW5 => ?_
      clear e3 e4 e5 fc
      have hh2 : EachTo W5 g 8 P0 := by rw [← hW5]; exact hh.inn (by omega) hv2 (Pc.inn1_no _ _ (by omega) _)
      have bx2 : Box W5 w.heap.size #[.int .i64 P0.node, .int .i64 P0.state, .int .i64 P0.steps, .slice P03 P0.sent.length P0k3, .slice P04 P0.inn.length P0k4, .slice P05 P0.out.length P0k5] 26 := by rw [← hW5]; exact (heap_setCell_other _ _ _ _ hgb).trans bx0
      have hBW2 : Below w2.heap.size w2 W5 := by rw [← hW5]; exact hBW.setCell hg _
      clear hh bx0 hBW hv2 hW5 hcl hm0 hm1 hlS hmS hyl hA EC ec hbs hE
      have hp9 : PieceIs false W5 0 W5.heap.size _ P0 := ((HP.out.below hBW2 (Nat.le_refl _)).widen (Nat.le_refl _) hBW2.size)
      have hB9 : Below w.heap.size w W5 := hB0.trans (hBW2.mono hB0.size)
      have HH := Lib.hid hh2; have HX9 := Lib.hid bx2; have HP9 := Lib.hid hp9; have HB9 := Lib.hid hB9
      clear hh2 bx2 hBW2 hp9 hB9 hk0 hk02
      go_loopg [8] (8 : Nat) (fun m i wr => ∃ j : Nat, i = .int .i64 (j : Int) ∧ j ≤ 8 ∧ m = 8 - j ∧ Below W5.heap.size W5 wr)
      case atStart => exact ⟨0, rfl, by omega, by omega, Below.refl _ _⟩
      case round =>
        obtain ⟨j, rfl, hj, hm, hb⟩ := hrel
        have HM := Lib.hid hm; clear hm
        by_cases hlt : j < 8
        · obtain ⟨f, hf, hno, _⟩ := HH.out.next hb
          obtain ⟨a, b, c, q0, q1, q2, q3, q4, q5, hpc⟩ := hf.piece hlt
          have hnj := hno j hlt
          obtain ⟨_, _, _, he, ⟨_, _, rfl, _⟩, ⟨_, _, rfl, _⟩, ⟨_, _, rfl, _⟩⟩ := id hpc
          have HN := Lib.hid hnj; clear hnj hno he hf
          have hj0 : (0 : Int) ≤ (j : Int) := by omega
          have hj8 : (j : Int) < 8 := by omega
          go_wp2_with fail
          clear q0 q1 q2 q3 q4 q5
          refine (rightq hpc HN.out).mono ?_
          rintro e wz ⟨rfl, hb2⟩
          go_wp2_with fail
          go_roundg (8 - (j + 1))
          case rel => exact ⟨j + 1, by simp, by omega, rfl, hb.trans (hb2.mono hb.size)⟩
          case measure => have := HM.out; omega
        · have bx0 := HX9.out.next hb
          have hp0 := HP9.out.next hb
          have hB := HB9.out.trans (hb.mono HB9.out.size)
          obtain ⟨c0, c1, c2, c3, c4, c5⟩ := bx0.six
          have hj8 : ¬ (j : Int) < 8 := by omega
          go_wp2_with fail
          clear c0 c1 c2 c3 c4 c5
          refine (rightq hp0 HR1.out).mono ?_
          rintro e w21 ⟨rfl, hb⟩
          replace hp0 := hp0.next hb
          replace hB := hB.trans (hb.mono hB.size)
          clear hb
          go_wp2_with fail
          refine (fixed6_any _).mono ?_
          rintro e w22 ⟨rfl, hb⟩
          replace hp0 := hp0.next hb
          replace hB := hB.trans (hb.mono hB.size)
          clear hb
          go_wp2_with fail
          go_ret
          exact ⟨rfl, hB⟩

theorem walk (v0 : Value) (p0 : Pc.Piece) (a1 : Int) (w1 : (Lit.int .u8 a1).wf = true) (w : World) (h0 : PieceIs false w 0 w.heap.size v0 p0) :
    Calls Try.prog 8 #[v0, .int .u8 a1] w fun x w' => x = .returned (.bool true) ∧ Below w.heap.size w w' := by
  have hw1 : 0 ≤ a1 ∧ a1 ≤ 255 := by simpa [Lit.wf, IntKind.min, IntKind.max, IntKind.signed, IntKind.bits] using w1
  cases hr : Pc.right (Pc.cut p0)
  · exact walk_n v0 p0 a1 hw1 w h0 hr
  · exact walk_y v0 p0 a1 hw1 w h0 hr

end pieceEach
end Go.Proofs.Ytdfgnmdofjhnkaa
