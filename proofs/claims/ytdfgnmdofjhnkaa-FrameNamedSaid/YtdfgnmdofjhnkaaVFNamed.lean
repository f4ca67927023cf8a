/- FrameNamed: the walk. -/
import Derived.Test.YtdfgnmdofjhnkaaG23
namespace Go.Proofs.Ytdfgnmdofjhnkaa.frameNamed
open Go.RowKit Go.Proofs.Ytdfgnmdofjhnkaa

/-- The six frames. -/
def six (P : Fr) (K : Int) : Nat → Fr :=
  upd (upd (upd (upd (upd (upd (upd (fun _ => P) 0 { P with seq := K }) 0 { P with seq := K, letter := 0 }) 1 { P with pieces := [Pc.zero] }) 2 { P with num := K }) 3 { P with count := K }) 4 { P with path := [0] }) 5 { P with epoch := K }
def names (e0 e5 e6 e7 : Bool) (j : Nat) : Bool := if j = 0 then e0 else if j = 1 then e5 else if j < 5 then e6 else e7
theorem six_right {P : Fr} {K : Int} (h : Fr.right P = true) (hK : 1 ≤ K ∧ K ≤ 5) {j : Nat} (hj : j < 6) : Fr.right (six P K j) = names (P.kind == 0) (P.kind == 5) (P.kind == 6) (P.kind != 6) j := by
  have hc : j = 0 ∨ j = 1 ∨ j = 2 ∨ j = 3 ∨ j = 4 ∨ j = 5 := by omega
  rcases hc with rfl | rfl | rfl | rfl | rfl | rfl
  · exact Fr.named_0 h hK
  · exact Fr.named_1 h
  · exact Fr.named_2 h hK
  · exact Fr.named_3 h hK
  · exact Fr.named_4 h
  · exact Fr.named_5 h hK
/-- Block g holds the six answers. -/
def Named (w : World) (g : Nat) (N : Nat → Bool) : Prop := g < w.heap.size ∧ ∀ j, j < 6 → w.cell? ⟨g, j, none⟩ = some (.bool (N j))
theorem Named.next {w w' : World} {g : Nat} {N : Nat → Bool} (h : Named w g N) (hb : Below w.heap.size w w') : Named w' g N :=
  ⟨Nat.lt_of_lt_of_le h.1 hb.size, fun j hj => (cell_of_block (hb.block g h.1)).trans (h.2 j hj)⟩
theorem Named.of {w : World} {g : Nat} {e0 e5 e6 e7 : Bool} {T : TypeId} (h : Box w g #[.bool e0, .bool e5, .bool e6, .bool e6, .bool e6, .bool e7] T) : Named w g (names e0 e5 e6 e7) := by
  refine ⟨h.lt, fun j hj => ?_⟩
  rw [blk_cell h]
  have hc : j = 0 ∨ j = 1 ∨ j = 2 ∨ j = 3 ∨ j = 4 ∨ j = 5 := by omega
  rcases hc with rfl | rfl | rfl | rfl | rfl | rfl <;> rfl

set_option maxRecDepth 100000 in
set_option maxHeartbeats 8000000 in
theorem walk_n (v0 : Value) (f0 : Fr) (a1 : Int) (hw2 : 0 ≤ a1 ∧ a1 ≤ 255) (w : World) (h0 : FrIs false w 0 w.heap.size v0 f0) (hr : Fr.right (Fr.cut f0) = false) :
    Calls Try.prog 12 #[v0, .int .u8 a1] w fun x w' => x = .returned (.bool true) ∧ Below w.heap.size w w' := by
  have HR := Lib.hid hr; clear hr
  have HW2 := Lib.hid hw2; clear hw2
  obtain ⟨a0A, a0B, a0k, a0l, rfl, _, _⟩ := id h0
  obtain ⟨P0, hP0⟩ : ∃ P, Fr.cut f0 = P := ⟨_, rfl⟩
  have hs0 : P0.Small := hP0 ▸ Fr.cut_small _
  have HP0 := Lib.hid hP0; have HS0 := Lib.hid hs0; clear hP0 hs0
  go_enter Try.func12, Try.ntmps12
  try simp only [List.append_eq, List.cons_append, List.nil_append]
  go_wp2_with fail
  refine name_call fun W0 hW0 => ?_
  have bx0 : Box W0 (w.heap.size) #[.int .i64 f0.kind, .int .i64 f0.epoch, .int .i64 f0.seq, .int .i64 f0.letter, .slice a0A f0.pieces.length a0k, .int .i64 f0.init, .int .i64 f0.num, .int .i64 f0.count, .slice a0B f0.path.length a0l] 58 := hW0 ▸ (Box.new' #[.int .i64 f0.kind, .int .i64 f0.epoch, .int .i64 f0.seq, .int .i64 f0.letter, .slice a0A f0.pieces.length a0k, .int .i64 f0.init, .int .i64 f0.num, .int .i64 f0.count, .slice a0B f0.path.length a0l] 58 (by simp))
  have hB : Below w.heap.size w W0 := hW0 ▸ ((Below.refl _ _).alloc (by first | (simp; done) | (simp; omega)) _)
  have hlo : w.heap.size + 1 ≤ W0.heap.size := hW0 ▸ (by simp)
  clear hW0
  refine (ccut (f := P0) ((h0.keep fun b _ q => hB.block b q).widen (Nat.le_refl _) hB.size) HP0.out).mono ?_
  rintro e v0 ⟨⟨P0A, P0k, P0B, P0l, rfl, hp0⟩, hb⟩
  replace bx0 := bx0.next hb
  replace hp0 := hp0.widen (lo' := w.heap.size + 1) hlo (Nat.le_refl _)
  replace hB := hB.trans (hb.mono hB.size)
  replace hlo := Nat.le_trans hlo hb.size
  clear hb
  obtain ⟨c0, c1, c2, c3, c4, c5, c6, c7, c8⟩ := nine_cells bx0
  obtain ⟨f0, f1, f2, f3, f4, f5, f6, f7, f8⟩ := nine_free bx0
  go_wp2_with fail
  clear c0 c1 c2 c3 c4 c5 c6 c7 c8
  clear f0 f1 f2 f3 f4 f5 f6 f7 f8
  refine name_call fun W hW => ?_
  have qx0 : Box W (w.heap.size) #[.int .i64 P0.kind, .int .i64 P0.epoch, .int .i64 P0.seq, .int .i64 P0.letter, .slice P0A P0.pieces.length P0k, .int .i64 P0.init, .int .i64 P0.num, .int .i64 P0.count, .slice P0B P0.path.length P0l] 58 := by rw [← hW]; exact nine_box bx0
  have qp0 : FrIs false W (w.heap.size + 1) W.heap.size (.agg #[.int .i64 P0.kind, .int .i64 P0.epoch, .int .i64 P0.seq, .int .i64 P0.letter, .slice P0A P0.pieces.length P0k, .int .i64 P0.init, .int .i64 P0.num, .int .i64 P0.count, .slice P0B P0.path.length P0l]) P0 := by rw [← hW]; exact hp0.nine_far (by omega)
  have qB : Below w.heap.size w W := by rw [← hW]; exact nine_below hB (by omega)
  have qlo : w.heap.size + 1 ≤ W.heap.size := by rw [← hW]; exact Nat.le_trans hlo (Nat.le_of_eq nine_size.symm)
  clear bx0 hp0 hB hlo hW
  have bx0 := qx0
  clear qx0
  have hp0 := qp0
  clear qp0
  have hB := qB
  have hlo := qlo
  clear qB qlo
  obtain ⟨W0, rfl⟩ : ∃ x : World, x = W := ⟨_, rfl⟩
  replace hp0 := hp0.zero_
  have hR := HP0.out ▸ HR.out
  have HR1 := Lib.hid hR; clear hR
  obtain ⟨c0, c1, c2, c3, c4, c5, c6, c7, c8⟩ := nine_cells bx0
  refine (cref hp0 HS0.out).mono ?_
  rintro e w1 ⟨⟨QA, Qk, QB, Ql, rfl, hq0⟩, hb⟩
  replace bx0 := bx0.next hb
  replace hp0 := hp0.next hb
  replace hB := hB.trans (hb.mono hB.size)
  clear hb
  go_wp2_with fail
  clear c0 c1 c2 c3 c4 c5 c6 c7 c8
  refine (crright hq0 HR1.out).mono ?_
  rintro e w2 ⟨rfl, hb⟩
  replace bx0 := bx0.next hb
  replace hp0 := hp0.next hb
  replace hq0 := hq0.next hb
  replace hB := hB.trans (hb.mono hB.size)
  clear hb
  obtain ⟨d0, d1, d2, d3, d4, d5, d6, d7, d8⟩ := nine_cells bx0
  go_wp2_with fail
  clear d0 d1 d2 d3 d4 d5 d6 d7 d8
  refine (cright hp0 HR1.out).mono ?_
  rintro e w3 ⟨rfl, hb⟩
  replace bx0 := bx0.next hb
  replace hp0 := hp0.next hb
  replace hq0 := hq0.next hb
  replace hB := hB.trans (hb.mono hB.size)
  clear hb
  go_wp2_with fail
  refine (fixed7_any _).mono ?_
  rintro e w4 ⟨rfl, hb⟩
  replace bx0 := bx0.next hb
  replace hp0 := hp0.next hb
  replace hq0 := hq0.next hb
  replace hB := hB.trans (hb.mono hB.size)
  clear hb
  go_wp2_with fail
  go_ret
  exact ⟨rfl, hB⟩

set_option maxRecDepth 100000 in
set_option maxHeartbeats 8000000 in
theorem walk_y (v0 : Value) (f0 : Fr) (a1 : Int) (hw2 : 0 ≤ a1 ∧ a1 ≤ 255) (w : World) (h0 : FrIs false w 0 w.heap.size v0 f0) (hr : Fr.right (Fr.cut f0) = true) :
    Calls Try.prog 12 #[v0, .int .u8 a1] w fun x w' => x = .returned (.bool true) ∧ Below w.heap.size w w' := by
  have HR := Lib.hid hr; clear hr
  obtain ⟨K, hK⟩ : ∃ K : Int, 1 + a1 % 5 = K := ⟨_, rfl⟩
  have hk1 : 1 ≤ K ∧ K ≤ 5 := by omega
  have HK := Lib.hid hK; have HK1 := Lib.hid hk1; clear hK hk1
  have HW2 := Lib.hid hw2; clear hw2
  obtain ⟨a0A, a0B, a0k, a0l, rfl, _, _⟩ := id h0
  obtain ⟨P0, hP0⟩ : ∃ P, Fr.cut f0 = P := ⟨_, rfl⟩
  have hs0 : P0.Small := hP0 ▸ Fr.cut_small _
  have HP0 := Lib.hid hP0; have HS0 := Lib.hid hs0; clear hP0 hs0
  go_enter Try.func12, Try.ntmps12
  try simp only [List.append_eq, List.cons_append, List.nil_append]
  go_wp2_with fail
  refine name_call fun W0 hW0 => ?_
  have bx0 : Box W0 (w.heap.size) #[.int .i64 f0.kind, .int .i64 f0.epoch, .int .i64 f0.seq, .int .i64 f0.letter, .slice a0A f0.pieces.length a0k, .int .i64 f0.init, .int .i64 f0.num, .int .i64 f0.count, .slice a0B f0.path.length a0l] 58 := hW0 ▸ (Box.new' #[.int .i64 f0.kind, .int .i64 f0.epoch, .int .i64 f0.seq, .int .i64 f0.letter, .slice a0A f0.pieces.length a0k, .int .i64 f0.init, .int .i64 f0.num, .int .i64 f0.count, .slice a0B f0.path.length a0l] 58 (by simp))
  have hB : Below w.heap.size w W0 := hW0 ▸ ((Below.refl _ _).alloc (by first | (simp; done) | (simp; omega)) _)
  have hlo : w.heap.size + 1 ≤ W0.heap.size := hW0 ▸ (by simp)
  clear hW0
  refine (ccut (f := P0) ((h0.keep fun b _ q => hB.block b q).widen (Nat.le_refl _) hB.size) HP0.out).mono ?_
  rintro e v0 ⟨⟨P0A, P0k, P0B, P0l, rfl, hp0⟩, hb⟩
  replace bx0 := bx0.next hb
  replace hp0 := hp0.widen (lo' := w.heap.size + 1) hlo (Nat.le_refl _)
  replace hB := hB.trans (hb.mono hB.size)
  replace hlo := Nat.le_trans hlo hb.size
  clear hb
  obtain ⟨c0, c1, c2, c3, c4, c5, c6, c7, c8⟩ := nine_cells bx0
  obtain ⟨f0, f1, f2, f3, f4, f5, f6, f7, f8⟩ := nine_free bx0
  go_wp2_with fail
  clear c0 c1 c2 c3 c4 c5 c6 c7 c8
  clear f0 f1 f2 f3 f4 f5 f6 f7 f8
  refine name_call fun W hW => ?_
  have qx0 : Box W (w.heap.size) #[.int .i64 P0.kind, .int .i64 P0.epoch, .int .i64 P0.seq, .int .i64 P0.letter, .slice P0A P0.pieces.length P0k, .int .i64 P0.init, .int .i64 P0.num, .int .i64 P0.count, .slice P0B P0.path.length P0l] 58 := by rw [← hW]; exact nine_box bx0
  have qp0 : FrIs false W (w.heap.size + 1) W.heap.size (.agg #[.int .i64 P0.kind, .int .i64 P0.epoch, .int .i64 P0.seq, .int .i64 P0.letter, .slice P0A P0.pieces.length P0k, .int .i64 P0.init, .int .i64 P0.num, .int .i64 P0.count, .slice P0B P0.path.length P0l]) P0 := by rw [← hW]; exact hp0.nine_far (by omega)
  have qB : Below w.heap.size w W := by rw [← hW]; exact nine_below hB (by omega)
  have qlo : w.heap.size + 1 ≤ W.heap.size := by rw [← hW]; exact Nat.le_trans hlo (Nat.le_of_eq nine_size.symm)
  clear bx0 hp0 hB hlo hW
  have bx0 := qx0
  clear qx0
  have hp0 := qp0
  clear qp0
  have hB := qB
  have hlo := qlo
  clear qB qlo
  obtain ⟨W0, rfl⟩ : ∃ x : World, x = W := ⟨_, rfl⟩
  replace hp0 := hp0.zero_
  have hR := HP0.out ▸ HR.out
  have HR1 := Lib.hid hR; clear hR
  obtain ⟨c0, c1, c2, c3, c4, c5, c6, c7, c8⟩ := nine_cells bx0
  have HCC := Lib.hid (show Fr.cut P0 = P0 by rw [← HP0.out]; exact Fr.cut_cut _)
  refine (cref hp0 HS0.out).mono ?_
  rintro e w1 ⟨⟨QA, Qk, QB, Ql, rfl, hq0⟩, hb⟩
  replace bx0 := bx0.next hb
  replace hp0 := hp0.next hb
  replace hB := hB.trans (hb.mono hB.size)
  clear hb
  go_wp2_with fail
  clear c0 c1 c2 c3 c4 c5 c6 c7 c8
  refine (crright hq0 HR1.out).mono ?_
  rintro e w2 ⟨rfl, hb⟩
  replace bx0 := bx0.next hb
  replace hp0 := hp0.next hb
  replace hq0 := hq0.next hb
  replace hB := hB.trans (hb.mono hB.size)
  clear hb
  clear hq0
  go_wp2_with fail
  obtain ⟨W0, rfl⟩ : ∃ x : World, x = w2 := ⟨_, rfl⟩
  have HPL := Lib.hid hp0; have HD0 := Lib.hid bx0.lt
  go_loopg [5, 6] 6 (fun m v i wr => ∃ j : Nat, i = .int .i64 (j : Int) ∧ j ≤ 6 ∧ m = 6 - j ∧ AcF Rep.frame 58 W0.heap.size wr v (List.replicate j P0) ∧ Below W0.heap.size W0 wr)
  case atStart => exact ⟨0, rfl, by omega, by omega, AcF.empty _ _ _, (Below.refl _ _).alloc (Nat.le_refl _) _⟩
  case round =>
    obtain ⟨j, rfl, hj, hm, hacc, hb⟩ := hrel
    have HM := Lib.hid hm; clear hm
    replace bx0 := bx0.next hb; replace hp0 := hp0.next hb
    by_cases hlt : (j : Int) < 6
    ·
      obtain ⟨UA, uc, hv, _, _, _⟩ := id hacc.slice
      rw [List.length_replicate] at hv
      subst hv
      obtain ⟨c0, c1, c2, c3, c4, c5, c6, c7, c8⟩ := nine_cells bx0
      go_wp2_with fail
      clear c0 c1 c2 c3 c4 c5 c6 c7 c8
      refine (ccut hp0 HCC.out).mono ?_
      rintro e w9 ⟨⟨CA, Ck, CB, Cl, rfl, hc⟩, hh⟩
      have hcr := hc.rep
      have hkb := fun (b : Nat) (q : b < wr.heap.size) => hh.block b q
      have HKB := Lib.hid hkb; clear hkb
      have hbw := hb.size; have hhs := hh.size
      replace hb := hb.trans (hh.mono hb.size)
      have HCR := Lib.hid hcr; have HLT := Lib.hid hlt; clear hcr hc bx0 hp0 hB hlo hlt
      have hnl : (List.replicate j P0).length ≤ 1000000 := by rw [List.length_replicate]; have := HLT.out; omega
      go_wp2_with (at_builtin; refine wpList_acF (r := Rep.frame) (w0 := wr) (y := P0) rfl (.tmp 27) (.tmp 30) 77 rfl W0.heap.size 58 Try.infoFrame Try.underlying77 rfl (by omega) (.slice UA j uc) rfl hacc (fun b _ h2 => HKB.out b h2) hhs hbw 1 _ _ rfl rfl HCR.out hnl ?_; intro v9 w10 hacc9 hgr9 hb9)
      rw [show List.replicate j P0 ++ [P0] = List.replicate (j + 1) P0 from (List.replicate_succ'.symm)] at hacc9
      go_roundg (6 - (j + 1))
      case rel => exact ⟨j + 1, by simp, by have := HLT.out; omega, rfl, hacc9, hb.trans hb9⟩
      case measure => have := HM.out; have := HLT.out; omega
    ·
      obtain rfl : j = 6 := by omega
      obtain ⟨g, uc, rfl, hg, _, hmc, hE⟩ := EachF.of_acc hacc (by rw [List.length_replicate]; omega)
      rw [List.length_replicate] at hE ⊢
      replace hE : EachF wr g 6 (fun _ => P0) := ⟨hE.lt, hE.free, fun i hi => by have h := hE.at_ i hi; rw [show (List.replicate 6 P0).getD i Fr.zero = P0 from by (have hc : i = 0 ∨ i = 1 ∨ i = 2 ∨ i = 3 ∨ i = 4 ∨ i = 5 := by omega); rcases hc with rfl | rfl | rfl | rfl | rfl | rfl <;> rfl] at h; exact h⟩
      replace hB := hB.trans (hb.mono hB.size)
      have hpl := HPL.out.keep fun b _ q => hb.block b q
      have hgl := hE.lt
      have hbx := bx0.lt
      have HG := Lib.hid hg
      clear hacc hj hlt hp0 hg hb
      have hK := HK.out; have hw2 := HW2.out
      go_upto_region 10 with fail
      clear hK hw2
      have hne : w.heap.size ≠ g := by have h1 := HG.out; have h2 := HD0.out; omega
      have hgW := HG.out
      have hwg : w.heap.size ≤ g := by have h2 := HD0.out; omega
      obtain ⟨V0, rfl⟩ : ∃ x : World, x = wr := ⟨_, rfl⟩
      obtain ⟨_, _, hc, _, _⟩ := hE.at_ 0 (by omega)
      have c02 := hc 2 _ rfl
      have f02 := hE.free (0 * 9 + 2)
      simp only [Nat.reduceMul, Nat.reduceAdd] at c02 f02
      clear hc
      obtain ⟨_, _, hc, _, _⟩ := hE.at_ 0 (by omega)
      have c03 := hc 3 _ rfl
      have f03 := hE.free (0 * 9 + 3)
      simp only [Nat.reduceMul, Nat.reduceAdd] at c03 f03
      clear hc
      go_upto_region 11 with fail
      clear c02 f02 c03 f03
      refine name_wp fun V1 hV => ?_
      have hE2 : EachF V1 g 6 (upd (upd (fun _ => P0) 0 { P0 with seq := K }) 0 { P0 with seq := K, letter := 0 }) := by rw [← hV]; exact EachF.num (f' := { P0 with seq := K, letter := 0 }) (EachF.num (f' := { P0 with seq := K }) hE (i := 0) (q := 2) (by omega) (by omega) rfl rfl fun _ _ => rfl) (i := 0) (q := 3) (by omega) (by omega) rfl rfl fun _ _ => rfl
      have hfar : ∀ b, b ≠ g → b < V0.heap.size → V1.heap[b]? = V0.heap[b]? := fun b hb hl => by rw [← hV]; exact ((heap_setCell_other _ _ _ _ hb)).trans (heap_setCell_other _ _ _ _ hb)
      have hB2 : Below w.heap.size w V1 := by rw [← hV]; exact below_set (below_set (hB) hwg) hwg
      clear hV hE hB
      have hE := hE2; have hB := hB2; clear hE2 hB2
      replace bx0 : Box V1 w.heap.size #[.int .i64 P0.kind, .int .i64 P0.epoch, .int .i64 P0.seq, .int .i64 P0.letter, .slice P0A P0.pieces.length P0k, .int .i64 P0.init, .int .i64 P0.num, .int .i64 P0.count, .slice P0B P0.path.length P0l] 58 := (hfar _ hne bx0.lt).trans bx0
      replace hpl : FrIs false V1 0 W0.heap.size (.agg #[.int .i64 P0.kind, .int .i64 P0.epoch, .int .i64 P0.seq, .int .i64 P0.letter, .slice P0A P0.pieces.length P0k, .int .i64 P0.init, .int .i64 P0.num, .int .i64 P0.count, .slice P0B P0.path.length P0l]) P0 := hpl.keep fun b _ q => hfar b (by omega) (by omega)
      replace hgl := hE.lt
      replace hbx := bx0.lt
      clear hfar
      obtain ⟨_, _, hc, _, _⟩ := hE.at_ 1 (by omega)
      have c14 := hc 4 _ rfl
      have f14 := hE.free (1 * 9 + 4)
      simp only [Nat.reduceMul, Nat.reduceAdd] at c14 f14
      clear hc
      go_upto_region 12 with fail
      clear c14 f14
      refine name_wp fun V2 hV => ?_
      have hal : Below V1.heap.size V1 (V1.alloc (.cells #[.int .i64 0, .int .i64 0, .int .i64 0, .slice none 0 0, .slice none 0 0, .slice none 0 0] 26)) := (Below.refl _ _).alloc (Nat.le_refl _) _
      have hEa := hE.next hal
      have hx : SliceOn Rep.piece false (V1.alloc (.cells #[.int .i64 0, .int .i64 0, .int .i64 0, .slice none 0 0, .slice none 0 0, .slice none 0 0] 26)) (butS (V1.alloc (.cells #[.int .i64 0, .int .i64 0, .int .i64 0, .slice none 0 0, .slice none 0 0, .slice none 0 0] 26)) g) (.slice (some ⟨V1.heap.size, 0, none⟩) 1 1) [Pc.zero] := SliceOn.of_block (r := Rep.piece) (xs := [Pc.zero]) (cells := [.int .i64 0, .int .i64 0, .int .i64 0, .slice none 0 0, .slice none 0 0, .slice none 0 0]) (Box.new _ _ _) (Rep.all_single ⟨_, _, _, rfl, SliceOn.none_, SliceOn.none_, SliceOn.none_⟩) ⟨by omega, by simp⟩ rfl (by decide) (by unfold maxLen; omega)
      have hV : ((V1.alloc (.cells #[.int .i64 0, .int .i64 0, .int .i64 0, .slice none 0 0, .slice none 0 0, .slice none 0 0] 26))).setCell ⟨g, 13, none⟩ (.slice (some ⟨V1.heap.size, 0, none⟩) 1 1) = V2 := (World.setCell_alloc_past _ _ _ _ hgl).trans hV
      have hE2 : EachF V2 g 6 (upd (upd (upd (fun _ => P0) 0 { P0 with seq := K }) 0 { P0 with seq := K, letter := 0 }) 1 { P0 with pieces := [Pc.zero] }) := by rw [← hV]; exact EachF.pieces hEa (i := 1) (by omega) hx
      have hfar : ∀ b, b ≠ g → b < V1.heap.size → V2.heap[b]? = V1.heap[b]? := fun b hb hl => by rw [← hV]; exact ((heap_setCell_other _ _ _ _ hb)).trans (hal.block _ hl)
      have hB2 : Below w.heap.size w V2 := by rw [← hV]; exact below_set (hB.trans (hal.mono hB.size)) hwg
      clear hV hE hB hEa hx hal
      have hE := hE2; have hB := hB2; clear hE2 hB2
      replace bx0 : Box V2 w.heap.size #[.int .i64 P0.kind, .int .i64 P0.epoch, .int .i64 P0.seq, .int .i64 P0.letter, .slice P0A P0.pieces.length P0k, .int .i64 P0.init, .int .i64 P0.num, .int .i64 P0.count, .slice P0B P0.path.length P0l] 58 := (hfar _ hne bx0.lt).trans bx0
      replace hpl : FrIs false V2 0 W0.heap.size (.agg #[.int .i64 P0.kind, .int .i64 P0.epoch, .int .i64 P0.seq, .int .i64 P0.letter, .slice P0A P0.pieces.length P0k, .int .i64 P0.init, .int .i64 P0.num, .int .i64 P0.count, .slice P0B P0.path.length P0l]) P0 := hpl.keep fun b _ q => hfar b (by omega) (by omega)
      replace hgl := hE.lt
      replace hbx := bx0.lt
      clear hfar
      obtain ⟨_, _, hc, _, _⟩ := hE.at_ 2 (by omega)
      have c26 := hc 6 _ rfl
      have f26 := hE.free (2 * 9 + 6)
      simp only [Nat.reduceMul, Nat.reduceAdd] at c26 f26
      clear hc
      go_upto_region 13 with fail
      clear c26 f26
      refine name_wp fun V3 hV => ?_
      have hE2 : EachF V3 g 6 (upd (upd (upd (upd (fun _ => P0) 0 { P0 with seq := K }) 0 { P0 with seq := K, letter := 0 }) 1 { P0 with pieces := [Pc.zero] }) 2 { P0 with num := K }) := by rw [← hV]; exact EachF.num (f' := { P0 with num := K }) hE (i := 2) (q := 6) (by omega) (by omega) rfl rfl fun _ _ => rfl
      have hfar : ∀ b, b ≠ g → b < V2.heap.size → V3.heap[b]? = V2.heap[b]? := fun b hb hl => by rw [← hV]; exact (heap_setCell_other _ _ _ _ hb)
      have hB2 : Below w.heap.size w V3 := by rw [← hV]; exact below_set (hB) hwg
      clear hV hE hB
      have hE := hE2; have hB := hB2; clear hE2 hB2
      replace bx0 : Box V3 w.heap.size #[.int .i64 P0.kind, .int .i64 P0.epoch, .int .i64 P0.seq, .int .i64 P0.letter, .slice P0A P0.pieces.length P0k, .int .i64 P0.init, .int .i64 P0.num, .int .i64 P0.count, .slice P0B P0.path.length P0l] 58 := (hfar _ hne bx0.lt).trans bx0
      replace hpl : FrIs false V3 0 W0.heap.size (.agg #[.int .i64 P0.kind, .int .i64 P0.epoch, .int .i64 P0.seq, .int .i64 P0.letter, .slice P0A P0.pieces.length P0k, .int .i64 P0.init, .int .i64 P0.num, .int .i64 P0.count, .slice P0B P0.path.length P0l]) P0 := hpl.keep fun b _ q => hfar b (by omega) (by omega)
      replace hgl := hE.lt
      replace hbx := bx0.lt
      clear hfar
      obtain ⟨_, _, hc, _, _⟩ := hE.at_ 3 (by omega)
      have c37 := hc 7 _ rfl
      have f37 := hE.free (3 * 9 + 7)
      simp only [Nat.reduceMul, Nat.reduceAdd] at c37 f37
      clear hc
      go_upto_region 14 with fail
      clear c37 f37
      refine name_wp fun V4 hV => ?_
      have hE2 : EachF V4 g 6 (upd (upd (upd (upd (upd (fun _ => P0) 0 { P0 with seq := K }) 0 { P0 with seq := K, letter := 0 }) 1 { P0 with pieces := [Pc.zero] }) 2 { P0 with num := K }) 3 { P0 with count := K }) := by rw [← hV]; exact EachF.num (f' := { P0 with count := K }) hE (i := 3) (q := 7) (by omega) (by omega) rfl rfl fun _ _ => rfl
      have hfar : ∀ b, b ≠ g → b < V3.heap.size → V4.heap[b]? = V3.heap[b]? := fun b hb hl => by rw [← hV]; exact (heap_setCell_other _ _ _ _ hb)
      have hB2 : Below w.heap.size w V4 := by rw [← hV]; exact below_set (hB) hwg
      clear hV hE hB
      have hE := hE2; have hB := hB2; clear hE2 hB2
      replace bx0 : Box V4 w.heap.size #[.int .i64 P0.kind, .int .i64 P0.epoch, .int .i64 P0.seq, .int .i64 P0.letter, .slice P0A P0.pieces.length P0k, .int .i64 P0.init, .int .i64 P0.num, .int .i64 P0.count, .slice P0B P0.path.length P0l] 58 := (hfar _ hne bx0.lt).trans bx0
      replace hpl : FrIs false V4 0 W0.heap.size (.agg #[.int .i64 P0.kind, .int .i64 P0.epoch, .int .i64 P0.seq, .int .i64 P0.letter, .slice P0A P0.pieces.length P0k, .int .i64 P0.init, .int .i64 P0.num, .int .i64 P0.count, .slice P0B P0.path.length P0l]) P0 := hpl.keep fun b _ q => hfar b (by omega) (by omega)
      replace hgl := hE.lt
      replace hbx := bx0.lt
      clear hfar
      obtain ⟨_, _, hc, _, _⟩ := hE.at_ 4 (by omega)
      have c48 := hc 8 _ rfl
      have f48 := hE.free (4 * 9 + 8)
      simp only [Nat.reduceMul, Nat.reduceAdd] at c48 f48
      clear hc
      go_upto_region 15 with fail
      clear c48 f48
      refine name_wp fun V5 hV => ?_
      have hal : Below V4.heap.size V4 (V4.alloc (.cells #[.int .i64 0] 3)) := (Below.refl _ _).alloc (Nat.le_refl _) _
      have hEa := hE.next hal
      have hx : SliceOn Rep.int false (V4.alloc (.cells #[.int .i64 0] 3)) (butS (V4.alloc (.cells #[.int .i64 0] 3)) g) (.slice (some ⟨V4.heap.size, 0, none⟩) 1 1) [0] := SliceOn.of_block (r := Rep.int) (xs := [0]) (cells := [.int .i64 0]) (Box.new _ _ _) (ints_all _ _ _ [0]) ⟨by omega, by simp⟩ rfl (by decide) (by unfold maxLen; omega)
      have hV : ((V4.alloc (.cells #[.int .i64 0] 3))).setCell ⟨g, 44, none⟩ (.slice (some ⟨V4.heap.size, 0, none⟩) 1 1) = V5 := (World.setCell_alloc_past _ _ _ _ hgl).trans hV
      have hE2 : EachF V5 g 6 (upd (upd (upd (upd (upd (upd (fun _ => P0) 0 { P0 with seq := K }) 0 { P0 with seq := K, letter := 0 }) 1 { P0 with pieces := [Pc.zero] }) 2 { P0 with num := K }) 3 { P0 with count := K }) 4 { P0 with path := [0] }) := by rw [← hV]; exact EachF.path hEa (i := 4) (by omega) hx
      have hfar : ∀ b, b ≠ g → b < V4.heap.size → V5.heap[b]? = V4.heap[b]? := fun b hb hl => by rw [← hV]; exact ((heap_setCell_other _ _ _ _ hb)).trans (hal.block _ hl)
      have hB2 : Below w.heap.size w V5 := by rw [← hV]; exact below_set (hB.trans (hal.mono hB.size)) hwg
      clear hV hE hB hEa hx hal
      have hE := hE2; have hB := hB2; clear hE2 hB2
      replace bx0 : Box V5 w.heap.size #[.int .i64 P0.kind, .int .i64 P0.epoch, .int .i64 P0.seq, .int .i64 P0.letter, .slice P0A P0.pieces.length P0k, .int .i64 P0.init, .int .i64 P0.num, .int .i64 P0.count, .slice P0B P0.path.length P0l] 58 := (hfar _ hne bx0.lt).trans bx0
      replace hpl : FrIs false V5 0 W0.heap.size (.agg #[.int .i64 P0.kind, .int .i64 P0.epoch, .int .i64 P0.seq, .int .i64 P0.letter, .slice P0A P0.pieces.length P0k, .int .i64 P0.init, .int .i64 P0.num, .int .i64 P0.count, .slice P0B P0.path.length P0l]) P0 := hpl.keep fun b _ q => hfar b (by omega) (by omega)
      replace hgl := hE.lt
      replace hbx := bx0.lt
      clear hfar
      obtain ⟨_, _, hc, _, _⟩ := hE.at_ 5 (by omega)
      have c51 := hc 1 _ rfl
      have f51 := hE.free (5 * 9 + 1)
      simp only [Nat.reduceMul, Nat.reduceAdd] at c51 f51
      clear hc
      go_upto_region 16 with fail
      clear c51 f51
      refine name_wp fun V6 hV => ?_
      have hE2 : EachF V6 g 6 (six P0 K) := by rw [← hV]; exact EachF.num (f' := { P0 with epoch := K }) hE (i := 5) (q := 1) (by omega) (by omega) rfl rfl fun _ _ => rfl
      have hfar : ∀ b, b ≠ g → b < V5.heap.size → V6.heap[b]? = V5.heap[b]? := fun b hb hl => by rw [← hV]; exact (heap_setCell_other _ _ _ _ hb)
      have hB2 : Below w.heap.size w V6 := by rw [← hV]; exact below_set (hB) hwg
      clear hV hE hB
      have hE := hE2; have hB := hB2; clear hE2 hB2
      replace bx0 : Box V6 w.heap.size #[.int .i64 P0.kind, .int .i64 P0.epoch, .int .i64 P0.seq, .int .i64 P0.letter, .slice P0A P0.pieces.length P0k, .int .i64 P0.init, .int .i64 P0.num, .int .i64 P0.count, .slice P0B P0.path.length P0l] 58 := (hfar _ hne bx0.lt).trans bx0
      replace hpl : FrIs false V6 0 W0.heap.size (.agg #[.int .i64 P0.kind, .int .i64 P0.epoch, .int .i64 P0.seq, .int .i64 P0.letter, .slice P0A P0.pieces.length P0k, .int .i64 P0.init, .int .i64 P0.num, .int .i64 P0.count, .slice P0B P0.path.length P0l]) P0 := hpl.keep fun b _ q => hfar b (by omega) (by omega)
      replace hgl := hE.lt
      replace hbx := bx0.lt
      clear hfar
      obtain ⟨e0, he0⟩ : ∃ b, (P0.kind == 0) = b := ⟨_, rfl⟩
      obtain ⟨e5, he5⟩ : ∃ b, (P0.kind == 5) = b := ⟨_, rfl⟩
      obtain ⟨e6, he6⟩ : ∃ b, (P0.kind == 6) = b := ⟨_, rfl⟩
      obtain ⟨e7, he7⟩ : ∃ b, (P0.kind != 6) = b := ⟨_, rfl⟩
      have hsr : ∀ j, j < 6 → Fr.right (six P0 K j) = names e0 e5 e6 e7 j := fun j hj => by rw [← he0, ← he5, ← he6, ← he7]; exact six_right HR1.out HK1.out hj
      have HSR := Lib.hid hsr; clear hsr
      obtain ⟨c0, c1, c2, c3, c4, c5, c6, c7, c8⟩ := nine_cells bx0
      go_upto_region 17 with fail
      clear c0 c1 c2 c3 c4 c5 c6 c7 c8
      clear he0 he5 he6 he7
      refine name_wp fun U hU => ?_
      have hN : Named U V6.heap.size (names e0 e5 e6 e7) := Named.of (T := 4) (hU ▸ Box.new _ _ _)
      have hb : Below V6.heap.size V6 U := hU ▸ (Below.refl _ _).alloc (Nat.le_refl _) _
      clear hU
      replace hE := hE.next hb
      replace bx0 := bx0.next hb
      replace hpl := hpl.keep fun b _ q => hb.block b (by omega)
      replace hB := hB.trans (hb.mono hB.size)
      clear hb
      have HNE := Lib.hid hne; clear hgl hbx hne
      go_wp2_with fail
      go_loopg [9] 6 (fun m i wx => ∃ j : Nat, i = .int .i64 (j : Int) ∧ j ≤ 6 ∧ m = 6 - j ∧ Below U.heap.size U wx)
      case atStart => exact ⟨0, rfl, by omega, by omega, Below.refl _ _⟩
      case round =>
        obtain ⟨j, rfl, hj, hm, hb⟩ := hrel
        have HM := Lib.hid hm; clear hm
        have hEj := hE.next hb; have hNj := hN.next hb
        by_cases hlt : (j : Int) < 6
        ·
          obtain ⟨FA, FB, Fk, Fl, hc, hq⟩ := hEj.frame (i := j) (by omega)
          have hrb := HSR.out j (by omega)
          have hn := hNj.2 j (by omega)
          obtain ⟨fj, hfj⟩ : ∃ f, six P0 K j = f := ⟨_, rfl⟩
          obtain ⟨b, hbb⟩ : ∃ b, names e0 e5 e6 e7 j = b := ⟨_, rfl⟩
          simp only [hfj, hbb] at hc hq hrb hn
          have c0 := hc 0 _ rfl
          have c1 := hc 1 _ rfl
          have c2 := hc 2 _ rfl
          have c3 := hc 3 _ rfl
          have c4 := hc 4 _ rfl
          have c5 := hc 5 _ rfl
          have c6 := hc 6 _ rfl
          have c7 := hc 7 _ rfl
          have c8 := hc 8 _ rfl
          simp only [Nat.add_zero] at c0
          clear hc hfj hbb hE hN bx0 hpl hB
          have HRB := Lib.hid hrb; clear hrb
          have hgl := hEj.lt
          have hgn := hNj.1
          have HN := Lib.hid hn; have hbU := hb
          have HC := Lib.hid (And.intro c0 (And.intro c1 (And.intro c2 (And.intro c3 (And.intro c4 (And.intro c5 (And.intro c6 (And.intro c7 c8))))))))
          clear c0 c1 c2 c3 c4 c5 c6 c7 c8
          have hV := hb; clear hb hbU
          go_upto_region 20 with fail
          replace hq := hq.next ((Below.refl _ _).drew)
          replace hV := hV.drew
          have hE := Ext.refl (wr.drew)
          refine region_go 16 (by kernel_rfl) ?_
          obtain ⟨c0, c1, c2, c3, c4, c5, c6, c7, c8⟩ := HC.out
          clear hn
          refine wpAny_go 16 0 [0, 1, 2, 3] 15 6 (by kernel_rfl) (by kernel_rfl) (fun _ _ _ _ _ h => h) (by kernel_rfl) (by rfl) (by rfl) (by kernel_rfl) ?_
          simp only [List.map_cons, List.map_nil, List.getD_cons_succ, List.getD_cons_zero]
          go_wp2_with fail
          change wpAnyM _ _ _ _ _ _ _ _ _ _
          clear c0 c1 c2 c3 c4 c5 c6 c7 c8
          have hn := HN.out
          refine wpAny_reads 16 15 [5, 6, 7, 8] 495 2 (by kernel_rfl) (by kernel_rfl) (fun _ _ _ _ _ h => h) (by kernel_rfl) (by rfl) (by rfl) (by kernel_rfl) ?_
          simp only [List.map_cons, List.map_nil, List.getD_cons_succ, List.getD_cons_zero]
          go_wp2_with fail
          change _ → wpAnyM _ _ _ _ _ _ _ _ _ _; intro _
          clear hn
          refine wpAny_oneM 4 511 (by kernel_rfl) (by kernel_rfl) (of_decide_eq_true (by kernel_rfl)) (by rfl) ?_
          simp only [List.getD_cons_succ, List.getD_cons_zero]
          go_wp2_with fail
          refine (cright hq HRB.out).mono ?_
          rintro e w31 ⟨rfl, hb⟩
          replace hq := hq.next hb
          replace hE := hE.trans (Ext.below hb (Nat.le_refl _))
          replace hV := hV.trans (hb.mono hV.size)
          clear hb
          go_wp2_with fail
          refine ⟨fun _ => hE, ?_⟩
          refine wpAny_go 16 511 [9] 1023 0 (by kernel_rfl) (by kernel_rfl) (fun _ _ _ _ _ h => h) (by kernel_rfl) (by rfl) (by rfl) (by kernel_rfl) ?_
          simp only [List.map_cons, List.map_nil, List.getD_cons_succ, List.getD_cons_zero]
          go_wp2_with fail
          change wpAnyM _ _ _ _ _ _ _ _ _ _
          refine wpAny_endM (by kernel_rfl) (by kernel_rfl) ?_
          go_wp2_with fail
          go_roundg (6 - (j + 1))
          case rel => exact ⟨j + 1, by simp, by omega, rfl, hV⟩
          case measure => have := HM.out; omega
        ·
          have hBx := hB.trans (hb.mono hB.size)
          have bxx := bx0.next hb
          have hsz := hb.size
          have hpx : FrIs false wr 0 wr.heap.size _ P0 := (hpl.keep fun b _ q => hb.block b (by have h1 := hE.lt; omega)).widen (Nat.le_refl _) (by have h1 := hE.lt; omega)
          clear hE hN bx0 hpl hB hEj hNj hb hsz
          obtain ⟨c0, c1, c2, c3, c4, c5, c6, c7, c8⟩ := nine_cells bxx
          go_wp2_with fail
          clear c0 c1 c2 c3 c4 c5 c6 c7 c8
          refine (cright hpx HR1.out).mono ?_
          rintro e w41 ⟨rfl, hb⟩
          replace hBx := hBx.trans (hb.mono hBx.size)
          clear hb
          go_wp2_with fail
          refine (fixed7_any _).mono ?_
          rintro e w42 ⟨rfl, hb⟩
          replace hBx := hBx.trans (hb.mono hBx.size)
          clear hb
          go_wp2_with fail
          go_ret
          exact ⟨rfl, hBx⟩

theorem walk (v0 : Value) (f0 : Fr) (a1 : Int) (w1 : (Lit.int .u8 a1).wf = true) (w : World) (h0 : FrIs false w 0 w.heap.size v0 f0) :
    Calls Try.prog 12 #[v0, .int .u8 a1] w fun x w' => x = .returned (.bool true) ∧ Below w.heap.size w w' := by
  have hw2 : 0 ≤ a1 ∧ a1 ≤ 255 := by simpa [Lit.wf, IntKind.min, IntKind.max, IntKind.signed, IntKind.bits] using w1
  cases hr : Fr.right (Fr.cut f0)
  · exact walk_n v0 f0 a1 hw2 w h0 hr
  · exact walk_y v0 f0 a1 hw2 w h0 hr

end Go.Proofs.Ytdfgnmdofjhnkaa.frameNamed
