/- Lemmas, walks and contracts that the statements of this seat are proved by. -/
import Derived.Test.YtdfgnmdofjhnkaaG15
import Derived.Test.YtdfgnmdofjhnkaaG8
import Derived.Test.YtdfgnmdofjhnkaaG5
/- The document's read. -/
namespace Go.Proofs.Ytdfgnmdofjhnkaa
open Go.RowKit

set_option maxRecDepth 100000 in
set_option maxHeartbeats 8000000 in
theorem rfread_any (s : ByteArray) (w : World) (hs : s.size ≤ 1000000) : Calls Try.prog 75 #[.string s] w
    fun y w' => (∃ u, y = .returned u ∧ ∃ f, FrIs false w' w.heap.size w'.heap.size u f ∧ Fr.IsRd s.data.toList f) ∧ Below w.heap.size w w' := by
  have hsl : s.data.toList.length = s.size := by simp
  obtain ⟨⟨k, a⟩, hg0⟩ : ∃ q, Fr.g2 s.data.toList 0 = q := ⟨_, rfl⟩
  have la : a ≤ s.size := by have := Fr.g2_le (l := s.data.toList) (at_ := 0) (by omega); rw [hg0] at this; dsimp only at this; omega
  have hc0 := fun w => rfget_any s 0 w (by omega) (by omega)
  rw [hg0] at hc0
  obtain ⟨⟨a1, b⟩, hg1⟩ : ∃ q, Fr.g2 s.data.toList a = q := ⟨_, rfl⟩
  have lb : b ≤ s.size := by have := Fr.g2_le (l := s.data.toList) (at_ := a) (by omega); rw [hg1] at this; dsimp only at this; omega
  have hc1 := fun w => rfget_any s a w (by omega) (by omega)
  rw [hg1] at hc1
  obtain ⟨⟨c, d⟩, hg2⟩ : ∃ q, Fr.g2 s.data.toList b = q := ⟨_, rfl⟩
  have ld : d ≤ s.size := by have := Fr.g2_le (l := s.data.toList) (at_ := b) (by omega); rw [hg2] at this; dsimp only at this; omega
  have hc2 := fun w => rfget_any s b w (by omega) (by omega)
  rw [hg2] at hc2
  obtain ⟨⟨e, g⟩, hg3⟩ : ∃ q, Fr.g2 s.data.toList d = q := ⟨_, rfl⟩
  have lg : g ≤ s.size := by have := Fr.g2_le (l := s.data.toList) (at_ := d) (by omega); rw [hg3] at this; dsimp only at this; omega
  have hc3 := fun w => rfget_any s d w (by omega) (by omega)
  rw [hg3] at hc3
  obtain ⟨⟨n, to1⟩, hg4⟩ : ∃ q, Fr.g2 s.data.toList g = q := ⟨_, rfl⟩
  have lto : to1 ≤ s.size := by have := Fr.g2_le (l := s.data.toList) (at_ := g) (by omega); rw [hg4] at this; dsimp only at this; omega
  have hc4 := fun w => rfget_any s g w (by omega) (by omega)
  rw [hg4] at hc4
  have hsay := Fr.heads_say hg0 hg1 hg2 hg3
  rw [hg4] at hsay
  obtain ⟨K, hK⟩ : ∃ K : Int, (k : Int) = K := ⟨_, rfl⟩
  dsimp only at hc0
  rw [hK] at hc0
  have HC0 := Lib.hid hc0; clear hc0
  have HC1 := Lib.hid hc1; clear hc1
  have HC2 := Lib.hid hc2; clear hc2
  have HC3 := Lib.hid hc3; clear hc3
  have HC4 := Lib.hid hc4; clear hc4
  have HG0 := Lib.hid hg0; clear hg0
  have HG1 := Lib.hid hg1; clear hg1
  have HG2 := Lib.hid hg2; clear hg2
  have HG3 := Lib.hid hg3; clear hg3
  have HG4 := Lib.hid hg4; clear hg4
  have HSAY := Lib.hid hsay; have HK0 := Lib.hid hK; have HSL := Lib.hid hsl; clear hsay hK hsl
  go_enter Try.func75, Try.ntmps75
  go_upto_region 2 with fail
  refine name_wp fun W0 hW0 => ?_
  have b2 : Box W0 w.heap.size #[.int .i64 0, .int .i64 0, .int .i64 0, .int .i64 0, .slice none 0 0, .int .i64 0, .int .i64 0, .int .i64 0, .slice none 0 0] 64 := hW0 ▸ (Box.at' _ _ rfl).alloc _
  have b3 : Box W0 (w.heap.size + 1) #[.int .i64 0, .int .i64 0, .int .i64 0, .int .i64 0, .slice none 0 0, .int .i64 0, .int .i64 0, .int .i64 0, .slice none 0 0] 64 := hW0 ▸ Box.at' _ _ (by simp)
  have hB : Below w.heap.size w W0 := hW0 ▸ ((Below.refl _ _).alloc (Nat.le_refl _) _).alloc (by simp) _
  clear hW0
  go_wp2_with fail
  refine (HC0.out _).mono ?_
  rintro z w1 ⟨rfl, rfl⟩
  go_wp2_with fail
  refine (HC1.out _).mono ?_
  rintro z w1 ⟨rfl, rfl⟩
  go_wp2_with fail
  refine (HC2.out _).mono ?_
  rintro z w1 ⟨rfl, rfl⟩
  go_wp2_with fail
  refine (HC3.out _).mono ?_
  rintro z w1 ⟨rfl, rfl⟩
  obtain ⟨d0, d1, d2, d3, d4, d5, d6, d7, d8⟩ := nine_cells b3
  obtain ⟨f0, f1, f2, f3, f4, f5, f6, f7, f8⟩ := nine_free b3
  go_upto_region 7 with fail
  clear d0 d1 d2 d3 d4 d5 d6 d7 d8
  clear f0 f1 f2 f3 f4 f5 f6 f7 f8
  refine name_wp fun W1 hW1 => ?_
  have c3 : Box W1 (w.heap.size + 1) #[.int .i64 K, .int .i64 0, .int .i64 0, .int .i64 0, .slice none 0 0, .int .i64 0, .int .i64 0, .int .i64 0, .slice none 0 0] 64 := by rw [← hW1]; exact blk_set b3 0 _
  have c2 : Box W1 w.heap.size #[.int .i64 0, .int .i64 0, .int .i64 0, .int .i64 0, .slice none 0 0, .int .i64 0, .int .i64 0, .int .i64 0, .slice none 0 0] 64 := by rw [← hW1]; exact (heap_setCell_other _ _ _ _ (Nat.ne_of_lt (Nat.lt_succ_self _))).trans b2
  have hB1 : Below w.heap.size w W1 := by rw [← hW1]; exact hB.setCell (Nat.le_succ _) _
  clear hW1 b2 b3 hB
  have hw1 : w.heap.size + 1 < W1.heap.size := c3.lt
  have HW1 := Lib.hid hw1; clear hw1
  by_cases h6 : K = 6
  ·
    subst h6
    have hgd : ∀ F, Fr.right F = true → Fr.body F = s.data.toList → F.kind = 6 ∧ F.init = (a1 : Int) ∧ F.num = (c : Int) ∧ F.count = (e : Int) ∧ n = F.path.length ∧ to1 = Fr.poff F 0 := by
      intro F k1 k2
      obtain ⟨s1, _, _, _, s2⟩ := HSAY.out F k1 k2
      have hk6 : k = 6 := by have := HK0.out; omega
      obtain ⟨s3, s4, s5, s6⟩ := s2 hk6
      simp only [Prod.mk.injEq] at s6
      exact ⟨by omega, s3, s4, s5, s6.1, s6.2⟩
    have HGD := Lib.hid hgd; clear hgd
    obtain ⟨d0, d1, d2, d3, d4, d5, d6, d7, d8⟩ := nine_cells c3
    obtain ⟨f0, f1, f2, f3, f4, f5, f6, f7, f8⟩ := nine_free c3
    go_upto_region 11 with fail
    clear d0 d1 d2 d3 d4 d5 d6 d7 d8
    clear f0 f1 f2 f3 f4 f5 f6 f7 f8
    refine name_wp fun W2 hW2 => ?_
    have c3' : Box W2 (w.heap.size + 1) #[.int .i64 6, .int .i64 0, .int .i64 0, .int .i64 0, .slice none 0 0, .int .i64 (a1 : Int), .int .i64 (c : Int), .int .i64 (e : Int), .slice none 0 0] 64 := by rw [← hW2]; exact blk_set (blk_set (blk_set c3 5 _) 6 _) 7 _
    have c2' : Box W2 w.heap.size #[.int .i64 0, .int .i64 0, .int .i64 0, .int .i64 0, .slice none 0 0, .int .i64 0, .int .i64 0, .int .i64 0, .slice none 0 0] 64 := by rw [← hW2]; exact (heap_setCell_other _ _ _ _ (Nat.ne_of_lt (Nat.lt_succ_self _))).trans ((heap_setCell_other _ _ _ _ (Nat.ne_of_lt (Nat.lt_succ_self _))).trans ((heap_setCell_other _ _ _ _ (Nat.ne_of_lt (Nat.lt_succ_self _))).trans c2))
    have hB2 : Below w.heap.size w W2 := by rw [← hW2]; exact ((hB1.setCell (Nat.le_succ _) _).setCell (Nat.le_succ _) _).setCell (Nat.le_succ _) _
    clear hW2 c3 c2 hB1
    have hw2 : w.heap.size + 1 < W2.heap.size := c3'.lt
    have HW2 := Lib.hid hw2; clear hw2
    go_wp2_with fail
    refine (HC4.out _).mono ?_
    rintro z w1 ⟨rfl, rfl⟩
    obtain ⟨m, hm⟩ : ∃ m : Nat, m = min n 6 := ⟨_, rfl⟩
    have HM := Lib.hid hm; clear hm
    go_wp2_with fail
    go_loopg [13, 14] m (fun kk x i wr => ∃ (j p : Nat) (xs : List Int) (v : Value), x = .int .i64 (p : Int) ∧ i = .int .i64 (j : Int) ∧ j ≤ m ∧ kk = m - j ∧ p ≤ s.size ∧ Acc Rep.int 3 W2.heap.size wr v xs ∧ xs.length = j ∧ Box wr (w.heap.size + 1) #[.int .i64 6, .int .i64 0, .int .i64 0, .int .i64 0, .slice none 0 0, .int .i64 (a1 : Int), .int .i64 (c : Int), .int .i64 (e : Int), v] 64 ∧ Box wr w.heap.size #[.int .i64 0, .int .i64 0, .int .i64 0, .int .i64 0, .slice none 0 0, .int .i64 0, .int .i64 0, .int .i64 0, .slice none 0 0] 64 ∧ Below w.heap.size w wr ∧ W2.heap.size ≤ wr.heap.size ∧
        (∀ F, Fr.right F = true → Fr.body F = s.data.toList → xs = F.path.take j ∧ p = Fr.poff F j))
    case atStart => exact ⟨0, to1, [], _, rfl, rfl, by omega, by omega, lto, Acc.nil _ _ _ _, rfl, c3', c2', hB2, Nat.le_refl _, fun F h1 h2 => ⟨rfl, (HGD.out F h1 h2).2.2.2.2.2⟩⟩
    case round =>
      clear c3' c2' hB2
      obtain ⟨j, p, xs, v, rfl, rfl, hj, hk, hc, hacc, hpl, c3, c2, hB, hz, hF⟩ := hrel
      have HK := Lib.hid hk; have HF := Lib.hid hF; clear hk hF
      obtain ⟨UA, uc, hv, _, _, _⟩ := id hacc.slice
      rw [hpl] at hv
      subst hv
      by_cases hlt : (j : Int) < (n : Int)
      ·
        by_cases hl6 : (j : Int) < 6
        ·
          obtain ⟨⟨x, p2⟩, hx⟩ : ∃ q, Fr.g2 s.data.toList p = q := ⟨_, rfl⟩
          have hle := Fr.g2_le (l := s.data.toList) (at_ := p) (by have := HSL.out; omega)
          rw [hx] at hle
          dsimp only at hle
          have lp2 : p2 ≤ s.size := by have := HSL.out; omega
          clear hle
          have hcx := rfget_any s p wr (by omega) hc
          rw [hx] at hcx
          have HCX := Lib.hid hcx; have HX := Lib.hid hx; clear hcx hx
          go_wp2_with fail
          refine HCX.out.mono ?_
          rintro z w1 ⟨rfl, rfl⟩
          have hnl : xs.length ≤ 1000000 := by have := HM.out; omega
          obtain ⟨d0, d1, d2, d3, d4, d5, d6, d7, d8⟩ := nine_cells c3
          have hbl := c3.lt
          go_wp2_with (at_builtin; refine wpList_accB (r := Rep.int) (w0 := wr) (y := (x : Int)) rfl (.tmp 80) (.tmp 82) 22 rfl W2.heap.size 3 Try.infoInt Try.underlying22 rfl (by omega) (.slice UA j uc) rfl hacc (fun b _ _ => rfl) (Nat.le_refl _) hz 1 _ [.int .i64 (x : Int)] rfl rfl rfl hnl ?_; intro v9 w9 hacc9 hgr9 hb9; obtain ⟨NA, nc, hv9, _, _, _⟩ := id hacc9.slice; rw [show (xs ++ [(x : Int)]).length = j + 1 from (by rw [List.length_append, hpl]; rfl)] at hv9; subst hv9; have c39 : Box w9 (w.heap.size + 1) _ _ := (hb9.block _ HW2.out).trans c3; obtain ⟨g0, g1, g2, g3, g4, g5, g6, g7, g8⟩ := nine_cells c39; obtain ⟨f0, f1, f2, f3, f4, f5, f6, f7, f8⟩ := nine_free c39)
          go_roundg (m - (j + 1))
          case rel =>
            have hne : w.heap.size ≠ w.heap.size + 1 := by omega
            refine ⟨j + 1, p2, xs ++ [(x : Int)], _, rfl, by simp, by have := HM.out; omega, rfl, lp2, hacc9.move (fun q h1 _ => heap_setCell_other _ _ _ _ (Nat.ne_of_gt (Nat.lt_of_lt_of_le HW2.out h1))) (by simp [World.setCell]), by rw [List.length_append, hpl]; rfl, blk_set c39 8 _, (heap_setCell_other _ _ _ _ hne).trans ((hb9.block _ (Nat.lt_of_succ_lt HW2.out)).trans c2), (hB.trans (hb9.mono (by have := HW2.out; omega))).setCell (Nat.le_succ _) _, by simp only [World.setCell, Array.size_modify]; exact Nat.le_trans hz hb9.size, fun F k1 k2 => ?_⟩
            obtain ⟨e1, e2⟩ := HF.out F k1 k2
            obtain ⟨q1, _, _, _, q5, _⟩ := HGD.out F k1 k2
            obtain ⟨y, hy⟩ := Pc.get_at (l := F.path) (j := j) (by omega)
            have r1 := Fr.path_at k1 q1 hy
            have r2 := (Fr.right_nums6 k1 q1).2.2.2.2 y (List.mem_of_getElem? hy)
            have hxx := HX.out
            rw [← k2, e2, r1] at hxx
            simp only [Prod.mk.injEq] at hxx
            obtain ⟨rfl, rfl⟩ := hxx
            exact ⟨by rw [Pc.take_next hy, ← e1, Int.toNat_of_nonneg r2.1], rfl⟩
          case measure => have := HK.out; have := HM.out; omega
        ·
          have HA9 := Lib.hid hacc; clear hacc
          have C2 := Lib.hid c2; have BB := Lib.hid hB; clear hB
          obtain ⟨d0, d1, d2, d3, d4, d5, d6, d7, d8⟩ := nine_cells c3
          obtain ⟨g0, g1, g2, g3, g4, g5, g6, g7, g8⟩ := nine_cells c2
          obtain ⟨f0, f1, f2, f3, f4, f5, f6, f7, f8⟩ := nine_free c2
          clear c2 c3
          go_wp2_with fail
          clear d0 f0 g0 d1 f1 g1 d2 f2 g2 d3 f3 g3 d4 f4 g4 d5 f5 g5 d6 f6 g6 d7 f7 g7 d8 f8 g8
          have hw2 := HW2.out
          have r := nine_box (a0 := .int .i64 6) (a1 := .int .i64 0) (a2 := .int .i64 0) (a3 := .int .i64 0) (a4 := .slice none 0 0) (a5 := .int .i64 (a1 : Int)) (a6 := .int .i64 (c : Int)) (a7 := .int .i64 (e : Int)) (a8 := .slice UA j uc) C2.out
          have hfar := fun (q : Nat) (hq : q ≠ w.heap.size) => nine_far (w := wr) (b := w.heap.size) (a0 := .int .i64 6) (a1 := .int .i64 0) (a2 := .int .i64 0) (a3 := .int .i64 0) (a4 := .slice none 0 0) (a5 := .int .i64 (a1 : Int)) (a6 := .int .i64 (c : Int)) (a7 := .int .i64 (e : Int)) (a8 := .slice UA j uc) hq
          have hz9 := nine_size (w := wr) (b := w.heap.size) (a0 := .int .i64 6) (a1 := .int .i64 0) (a2 := .int .i64 0) (a3 := .int .i64 0) (a4 := .slice none 0 0) (a5 := .int .i64 (a1 : Int)) (a6 := .int .i64 (c : Int)) (a7 := .int .i64 (e : Int)) (a8 := .slice UA j uc)
          have hbl := nine_below (b := w.heap.size) (a0 := .int .i64 6) (a1 := .int .i64 0) (a2 := .int .i64 0) (a3 := .int .i64 0) (a4 := .slice none 0 0) (a5 := .int .i64 (a1 : Int)) (a6 := .int .i64 (c : Int)) (a7 := .int .i64 (e : Int)) (a8 := .slice UA j uc) BB.out (Nat.le_refl _)
          unfold wnine at r
          obtain ⟨g0, g1, g2, g3, g4, g5, g6, g7, g8⟩ := nine_cells r
          refine bodyPost_ret (v := .agg #[.int .i64 6, .int .i64 0, .int .i64 0, .int .i64 0, .slice none 0 0, .int .i64 (a1 : Int), .int .i64 (c : Int), .int .i64 (e : Int), .slice UA j uc]) (by simp [results, Try.results75, go_sem, g0, g1, g2, g3, g4, g5, g6, g7, g8]) rfl ⟨⟨_, rfl, ⟨6, 0, 0, 0, [], (a1 : Int), (c : Int), (e : Int), xs⟩, FrIs.of (f := ⟨6, 0, 0, 0, [], (a1 : Int), (c : Int), (e : Int), xs⟩) SliceIs.none_ ((HA9.out.slice.soft.keep fun q hq1 _ => hfar q (by omega)).widen (by omega) (Nat.le_of_eq hz9.symm)), ?_⟩, hbl⟩
          refine Fr.isRd_probe fun F k1 k2 => ?_
          obtain ⟨e1, _⟩ := HF.out F k1 k2
          obtain ⟨q1, q2, q3, q4, q5, _⟩ := HGD.out F k1 k2
          have hlen := (Fr.right_nums6 k1 q1).2.2.2.1
          exact ⟨q1, q2, q3, q4, by rw [e1, List.take_of_length_le (by have := HM.out; omega)]⟩
      ·
        have HA9 := Lib.hid hacc; clear hacc
        have C2 := Lib.hid c2; have BB := Lib.hid hB; clear hB
        obtain ⟨d0, d1, d2, d3, d4, d5, d6, d7, d8⟩ := nine_cells c3
        obtain ⟨g0, g1, g2, g3, g4, g5, g6, g7, g8⟩ := nine_cells c2
        obtain ⟨f0, f1, f2, f3, f4, f5, f6, f7, f8⟩ := nine_free c2
        clear c2 c3
        go_wp2_with fail
        clear d0 f0 g0 d1 f1 g1 d2 f2 g2 d3 f3 g3 d4 f4 g4 d5 f5 g5 d6 f6 g6 d7 f7 g7 d8 f8 g8
        have hw2 := HW2.out
        have r := nine_box (a0 := .int .i64 6) (a1 := .int .i64 0) (a2 := .int .i64 0) (a3 := .int .i64 0) (a4 := .slice none 0 0) (a5 := .int .i64 (a1 : Int)) (a6 := .int .i64 (c : Int)) (a7 := .int .i64 (e : Int)) (a8 := .slice UA j uc) C2.out
        have hfar := fun (q : Nat) (hq : q ≠ w.heap.size) => nine_far (w := wr) (b := w.heap.size) (a0 := .int .i64 6) (a1 := .int .i64 0) (a2 := .int .i64 0) (a3 := .int .i64 0) (a4 := .slice none 0 0) (a5 := .int .i64 (a1 : Int)) (a6 := .int .i64 (c : Int)) (a7 := .int .i64 (e : Int)) (a8 := .slice UA j uc) hq
        have hz9 := nine_size (w := wr) (b := w.heap.size) (a0 := .int .i64 6) (a1 := .int .i64 0) (a2 := .int .i64 0) (a3 := .int .i64 0) (a4 := .slice none 0 0) (a5 := .int .i64 (a1 : Int)) (a6 := .int .i64 (c : Int)) (a7 := .int .i64 (e : Int)) (a8 := .slice UA j uc)
        have hbl := nine_below (b := w.heap.size) (a0 := .int .i64 6) (a1 := .int .i64 0) (a2 := .int .i64 0) (a3 := .int .i64 0) (a4 := .slice none 0 0) (a5 := .int .i64 (a1 : Int)) (a6 := .int .i64 (c : Int)) (a7 := .int .i64 (e : Int)) (a8 := .slice UA j uc) BB.out (Nat.le_refl _)
        unfold wnine at r
        obtain ⟨g0, g1, g2, g3, g4, g5, g6, g7, g8⟩ := nine_cells r
        refine bodyPost_ret (v := .agg #[.int .i64 6, .int .i64 0, .int .i64 0, .int .i64 0, .slice none 0 0, .int .i64 (a1 : Int), .int .i64 (c : Int), .int .i64 (e : Int), .slice UA j uc]) (by simp [results, Try.results75, go_sem, g0, g1, g2, g3, g4, g5, g6, g7, g8]) rfl ⟨⟨_, rfl, ⟨6, 0, 0, 0, [], (a1 : Int), (c : Int), (e : Int), xs⟩, FrIs.of (f := ⟨6, 0, 0, 0, [], (a1 : Int), (c : Int), (e : Int), xs⟩) SliceIs.none_ ((HA9.out.slice.soft.keep fun q hq1 _ => hfar q (by omega)).widen (by omega) (Nat.le_of_eq hz9.symm)), ?_⟩, hbl⟩
        refine Fr.isRd_probe fun F k1 k2 => ?_
        obtain ⟨e1, _⟩ := HF.out F k1 k2
        obtain ⟨q1, q2, q3, q4, q5, _⟩ := HGD.out F k1 k2
        have hlen := (Fr.right_nums6 k1 q1).2.2.2.1
        exact ⟨q1, q2, q3, q4, by rw [e1, List.take_of_length_le (by have := HM.out; omega)]⟩
  ·
    have b6 : (K == 6) = false := by simpa using h6
    have hgd : ∀ F, Fr.right F = true → Fr.body F = s.data.toList → F.kind = K ∧ F.epoch = (a1 : Int) := by
      intro F k1 k2
      obtain ⟨s1, s2, _⟩ := HSAY.out F k1 k2
      have := HK0.out
      exact ⟨by omega, s2 (by omega)⟩
    have HGD := Lib.hid hgd; clear hgd
    obtain ⟨d0, d1, d2, d3, d4, d5, d6, d7, d8⟩ := nine_cells c3
    obtain ⟨f0, f1, f2, f3, f4, f5, f6, f7, f8⟩ := nine_free c3
    go_upto_region 20 with fail
    clear d0 d1 d2 d3 d4 d5 d6 d7 d8
    clear f0 f1 f2 f3 f4 f5 f6 f7 f8
    clear b6
    refine name_wp fun W2 hW2 => ?_
    have c3' : Box W2 (w.heap.size + 1) #[.int .i64 K, .int .i64 (a1 : Int), .int .i64 0, .int .i64 0, .slice none 0 0, .int .i64 0, .int .i64 0, .int .i64 0, .slice none 0 0] 64 := by rw [← hW2]; exact blk_set c3 1 _
    have c2' : Box W2 w.heap.size #[.int .i64 0, .int .i64 0, .int .i64 0, .int .i64 0, .slice none 0 0, .int .i64 0, .int .i64 0, .int .i64 0, .slice none 0 0] 64 := by rw [← hW2]; exact (heap_setCell_other _ _ _ _ (Nat.ne_of_lt (Nat.lt_succ_self _))).trans c2
    have hB2 : Below w.heap.size w W2 := by rw [← hW2]; exact hB1.setCell (Nat.le_succ _) _
    clear hW2 c3 c2 hB1
    have hw2 : w.heap.size + 1 < W2.heap.size := c3'.lt
    have HW2 := Lib.hid hw2; clear hw2
    by_cases h0 : K = 0
    ·
      subst h0
      obtain ⟨d0, d1, d2, d3, d4, d5, d6, d7, d8⟩ := nine_cells c3'
      obtain ⟨f0, f1, f2, f3, f4, f5, f6, f7, f8⟩ := nine_free c3'
      go_upto_region 22 with fail
      clear d0 d1 d2 d3 d4 d5 d6 d7 d8
      clear f0 f1 f2 f3 f4 f5 f6 f7 f8
      refine name_wp fun W3 hW3 => ?_
      have c3 : Box W3 (w.heap.size + 1) #[.int .i64 0, .int .i64 (a1 : Int), .int .i64 (c : Int), .int .i64 (e : Int), .slice none 0 0, .int .i64 0, .int .i64 0, .int .i64 0, .slice none 0 0] 64 := by rw [← hW3]; exact blk_set (blk_set c3' 2 _) 3 _
      have c2 : Box W3 w.heap.size #[.int .i64 0, .int .i64 0, .int .i64 0, .int .i64 0, .slice none 0 0, .int .i64 0, .int .i64 0, .int .i64 0, .slice none 0 0] 64 := by rw [← hW3]; exact (heap_setCell_other _ _ _ _ (Nat.ne_of_lt (Nat.lt_succ_self _))).trans ((heap_setCell_other _ _ _ _ (Nat.ne_of_lt (Nat.lt_succ_self _))).trans c2')
      have hB : Below w.heap.size w W3 := by rw [← hW3]; exact (hB2.setCell (Nat.le_succ _) _).setCell (Nat.le_succ _) _
      clear hW3 c3' c2' hB2
      have C2 := Lib.hid c2; have BB := Lib.hid hB; clear hB
      obtain ⟨d0, d1, d2, d3, d4, d5, d6, d7, d8⟩ := nine_cells c3
      obtain ⟨g0, g1, g2, g3, g4, g5, g6, g7, g8⟩ := nine_cells c2
      obtain ⟨f0, f1, f2, f3, f4, f5, f6, f7, f8⟩ := nine_free c2
      clear c2 c3
      go_wp2_with fail
      clear d0 f0 g0 d1 f1 g1 d2 f2 g2 d3 f3 g3 d4 f4 g4 d5 f5 g5 d6 f6 g6 d7 f7 g7 d8 f8 g8
      have r := nine_box (a0 := .int .i64 0) (a1 := .int .i64 (a1 : Int)) (a2 := .int .i64 (c : Int)) (a3 := .int .i64 (e : Int)) (a4 := .slice none 0 0) (a5 := .int .i64 0) (a6 := .int .i64 0) (a7 := .int .i64 0) (a8 := .slice none 0 0) C2.out
      have hfar := fun (q : Nat) (hq : q ≠ w.heap.size) => nine_far (w := W3) (b := w.heap.size) (a0 := .int .i64 0) (a1 := .int .i64 (a1 : Int)) (a2 := .int .i64 (c : Int)) (a3 := .int .i64 (e : Int)) (a4 := .slice none 0 0) (a5 := .int .i64 0) (a6 := .int .i64 0) (a7 := .int .i64 0) (a8 := .slice none 0 0) hq
      have hz9 := nine_size (w := W3) (b := w.heap.size) (a0 := .int .i64 0) (a1 := .int .i64 (a1 : Int)) (a2 := .int .i64 (c : Int)) (a3 := .int .i64 (e : Int)) (a4 := .slice none 0 0) (a5 := .int .i64 0) (a6 := .int .i64 0) (a7 := .int .i64 0) (a8 := .slice none 0 0)
      have hbl := nine_below (b := w.heap.size) (a0 := .int .i64 0) (a1 := .int .i64 (a1 : Int)) (a2 := .int .i64 (c : Int)) (a3 := .int .i64 (e : Int)) (a4 := .slice none 0 0) (a5 := .int .i64 0) (a6 := .int .i64 0) (a7 := .int .i64 0) (a8 := .slice none 0 0) BB.out (Nat.le_refl _)
      unfold wnine at r
      obtain ⟨g0, g1, g2, g3, g4, g5, g6, g7, g8⟩ := nine_cells r
      refine bodyPost_ret (v := .agg #[.int .i64 0, .int .i64 (a1 : Int), .int .i64 (c : Int), .int .i64 (e : Int), .slice none 0 0, .int .i64 0, .int .i64 0, .int .i64 0, .slice none 0 0]) (by simp [results, Try.results75, go_sem, g0, g1, g2, g3, g4, g5, g6, g7, g8]) rfl ⟨⟨_, rfl, ⟨0, (a1 : Int), (c : Int), (e : Int), [], 0, 0, 0, []⟩, FrIs.of (f := ⟨0, (a1 : Int), (c : Int), (e : Int), [], 0, 0, 0, []⟩) SliceIs.none_ SliceIs.none_, ?_⟩, hbl⟩
      refine Fr.isRd_app fun F k1 k2 => ?_
      obtain ⟨q1, q2⟩ := HGD.out F k1 k2
      obtain ⟨_, _, q3, _⟩ := HSAY.out F k1 k2
      have hk0 : k = 0 := by have := HK0.out; omega
      exact ⟨q1, q2, (q3 hk0).1, (q3 hk0).2⟩
    by_cases h5 : K = 5
    ·
      subst h5
      have hgd : ∀ F, Fr.right F = true → Fr.body F = s.data.toList → F.kind = 5 ∧ c = F.pieces.length ∧ d = Fr.off F 0 := by
        intro F k1 k2
        obtain ⟨s1, _, _, s2, _⟩ := HSAY.out F k1 k2
        have hk5 : k = 5 := by have := HK0.out; omega
        exact ⟨by omega, (s2 hk5).1, (s2 hk5).2⟩
      have HG5 := Lib.hid hgd; clear hgd
      obtain ⟨m, hm⟩ : ∃ m : Nat, m = min c 6 := ⟨_, rfl⟩
      have HM := Lib.hid hm; clear hm
      go_wp2_with fail
      go_loopg [17, 18] m (fun kk x i wr => ∃ (j p : Nat) (ps : List Pc.Piece) (v : Value), x = .int .i64 (p : Int) ∧ i = .int .i64 (j : Int) ∧ j ≤ m ∧ kk = m - j ∧ p ≤ s.size ∧ Acc Rep.piece 32 W2.heap.size wr v ps ∧ ps.length = j ∧ Box wr (w.heap.size + 1) #[.int .i64 5, .int .i64 (a1 : Int), .int .i64 0, .int .i64 0, v, .int .i64 0, .int .i64 0, .int .i64 0, .slice none 0 0] 64 ∧ Box wr w.heap.size #[.int .i64 0, .int .i64 0, .int .i64 0, .int .i64 0, .slice none 0 0, .int .i64 0, .int .i64 0, .int .i64 0, .slice none 0 0] 64 ∧ Below w.heap.size w wr ∧ W2.heap.size ≤ wr.heap.size ∧
          (∀ F, Fr.right F = true → Fr.body F = s.data.toList → ps = F.pieces.take j ∧ p = Fr.off F j))
      case atStart => exact ⟨0, d, [], _, rfl, rfl, by omega, by omega, ld, Acc.nil _ _ _ _, rfl, c3', c2', hB2, Nat.le_refl _, fun F h1 h2 => ⟨rfl, (HG5.out F h1 h2).2.2⟩⟩
      case round =>
        clear c3' c2' hB2
        obtain ⟨j, p, ps, v, rfl, rfl, hj, hk, hc, hacc, hpl, c3, c2, hB, hz, hF⟩ := hrel
        have HK := Lib.hid hk; have HF := Lib.hid hF; clear hk hF
        obtain ⟨UA, uc, hv, _, _, _⟩ := id hacc.slice
        rw [hpl] at hv
        subst hv
        by_cases hlt : (j : Int) < (c : Int)
        ·
          by_cases hl6 : (j : Int) < 6
          ·
            obtain ⟨⟨tt, p2, et⟩, ht⟩ : ∃ q, Fr.t3 s.data.toList p 2147483647 = q := ⟨_, rfl⟩
            have hle := Fr.t3_le (l := s.data.toList) (at_ := p) (top := 2147483647) (by have := HSL.out; omega)
            rw [ht] at hle
            dsimp only at hle
            have hct := rtake3_any s p 2147483647 wr (by omega) hc
            rw [ht] at hct
            have HCT := Lib.hid hct; have HTT := Lib.hid ht; clear hct ht
            have lt1 : tt.length ≤ s.size := by have := HSL.out; omega
            have lp2 : p2 ≤ s.size := by have := HSL.out; omega
            clear hle
            go_wp2_with fail
            refine HCT.out.mono ?_
            rintro z w3 ⟨rfl, rfl⟩
            go_wp2_with fail
            refine (rdecode_any ⟨tt.toArray⟩ _ (by show tt.toArray.size ≤ 1000000; simp; omega)).mono ?_
            rw [show (⟨tt.toArray⟩ : ByteArray).data.toList = tt from by simp]
            obtain ⟨D, hD⟩ : ∃ q, Pc.dec tt = q := ⟨_, rfl⟩
            obtain ⟨G, hG⟩ : ∃ q, Pc.decE tt = q := ⟨_, rfl⟩
            rw [hD, hG]
            have HD := Lib.hid hD; have HG := Lib.hid hG; clear hD hG
            rintro z w4 ⟨⟨v2, rfl, hp⟩, hb⟩
            replace c3 := c3.next hb; replace c2 := c2.next hb
            replace hB := hB.trans (hb.mono hB.size)
            obtain ⟨cs, rfl, hcs⟩ := hp.cells
            have hcs0 := hcs
            obtain ⟨r3, r4, r5, rfl, ⟨Q3, q3, rfl, _⟩, ⟨Q4, q4, rfl, _⟩, ⟨Q5, q5, rfl, _⟩⟩ := hcs0
            have HCS := Lib.hid hcs; clear hcs hp
            go_upto_region 29 with fail
            refine name_wp fun V hV => ?_
            have bp : Box V w4.heap.size #[.int .i64 D.node, .int .i64 D.state, .int .i64 D.steps, .slice Q3 D.sent.length q3, .slice Q4 D.inn.length q4, .slice Q5 D.out.length q5] 32 := hV ▸ Box.new _ _ _
            have hbV : Below w4.heap.size w4 V := hV ▸ (Below.refl _ _).alloc (Nat.le_refl _) _
            clear hV
            have h3V : Below wr.heap.size wr V := hb.trans (hbV.mono hb.size)
            have hcV : Rep.piece.is true V (rng wr.heap.size V.heap.size) [.int .i64 D.node, .int .i64 D.state, .int .i64 D.steps, .slice Q3 D.sent.length q3, .slice Q4 D.inn.length q4, .slice Q5 D.out.length q5] D := Rep.piece.widen (Rep.piece.keep HCS.out (fun q hq => hbV.block q hq.2)) (rng_widen (Nat.le_refl _) hbV.size)
            replace c3 := c3.next hbV; replace c2 := c2.next hbV
            replace hB := hB.trans (hbV.mono hB.size)
            have HCV := Lib.hid hcV; clear hcV HCS hb hbV
            have hnl : ps.length ≤ 1000000 := by have := HM.out; omega
            by_cases hok : et = 0 ∧ G = 0
            ·
              obtain ⟨rfl, rfl⟩ := hok
              obtain ⟨d0, d1, d2, d3, d4, d5, d6, d7, d8⟩ := nine_cells c3
              obtain ⟨p0, p1, p2', p3, p4, p5⟩ := bp.six
              have hbl5 := c3.lt; have hblp := bp.lt
              go_wp2_with (at_builtin; refine wpList_accB (r := Rep.piece) (w0 := wr) (y := D) rfl (.tmp 127) (.tmp 129) 62 rfl W2.heap.size 32 Try.infoRPiece Try.underlying62 rfl (by omega) (.slice UA j uc) rfl hacc (fun b h1 h2 => h3V.block b h2) h3V.size hz 1 _ _ rfl rfl HCV.out hnl ?_; intro v9 w9 hacc9 hgr9 hb9; obtain ⟨NA, nc, hv9, _, _, _⟩ := id hacc9.slice; rw [show (ps ++ [D]).length = j + 1 from (by rw [List.length_append, hpl]; rfl)] at hv9; subst hv9; have c39 : Box w9 (w.heap.size + 1) _ _ := (hb9.block _ HW2.out).trans c3; obtain ⟨g0, g1, g2, g3, g4, g5, g6, g7, g8⟩ := nine_cells c39; obtain ⟨f0, f1, f2, f3, f4, f5, f6, f7, f8⟩ := nine_free c39)
              go_roundg (m - (j + 1))
              case rel =>
                have hne : w.heap.size ≠ w.heap.size + 1 := by omega
                refine ⟨j + 1, p2, ps ++ [D], _, rfl, by simp, by have := HM.out; omega, rfl, lp2, hacc9.move (fun q h1 _ => heap_setCell_other _ _ _ _ (Nat.ne_of_gt (Nat.lt_of_lt_of_le HW2.out h1))) (by simp [World.setCell]), by rw [List.length_append, hpl]; rfl, blk_set c39 4 _, (heap_setCell_other _ _ _ _ hne).trans ((hb9.block _ (Nat.lt_of_succ_lt HW2.out)).trans c2), (hB.trans (hb9.mono (by have := HW2.out; omega))).setCell (Nat.le_succ _) _, by simp only [World.setCell, Array.size_modify]; exact Nat.le_trans (Nat.le_trans hz h3V.size) hb9.size, fun F k1 k2 => ?_⟩
                obtain ⟨e1, e2⟩ := HF.out F k1 k2
                obtain ⟨s1, s2, _⟩ := HG5.out F k1 k2
                obtain ⟨x, hx⟩ := Pc.get_at (l := F.pieces) (j := j) (by omega)
                obtain ⟨r1, r2, r3, r4⟩ := Fr.piece_at k1 s1 hx (top := 2147483647) (by omega)
                have htt := HTT.out
                rw [← k2, e2, Fr.t3_ok r1] at htt
                simp only [Prod.mk.injEq] at htt
                obtain ⟨rfl, rfl, _⟩ := htt
                exact ⟨by rw [Pc.take_next hx, ← e1, ← HD.out, r2], r4.symm⟩
              case measure => have := HK.out; have := HM.out; omega
            ·
              have HOK := Lib.hid hok; have C2 := Lib.hid c2; have BB := Lib.hid hB; clear hB c3
              obtain ⟨d0, d1, d2, d3, d4, d5, d6, d7, d8⟩ := nine_cells c2
              obtain ⟨f0, f1, f2, f3, f4, f5, f6, f7, f8⟩ := nine_free c2
              clear c2
              by_cases h0 : et = 0
              ·
                have hbad : ((G : Int) != 0) = true := by simp only [bne_iff_ne, ne_eq]; exact fun h => HOK.out ⟨h0, by omega⟩
                subst h0
                clear hok
                go_wp2_with fail
                clear d0 f0 d1 f1 d2 f2 d3 f3 d4 f4 d5 f5 d6 f6 d7 f7 d8 f8
                have r := nine_box (a0 := .int .i64 0) (a1 := .int .i64 0) (a2 := .int .i64 0) (a3 := .int .i64 0) (a4 := .slice none 0 0) (a5 := .int .i64 0) (a6 := .int .i64 0) (a7 := .int .i64 0) (a8 := .slice none 0 0) C2.out
                have hfar := fun (q : Nat) (hq : q ≠ w.heap.size) => nine_far (w := V) (b := w.heap.size) (a0 := .int .i64 0) (a1 := .int .i64 0) (a2 := .int .i64 0) (a3 := .int .i64 0) (a4 := .slice none 0 0) (a5 := .int .i64 0) (a6 := .int .i64 0) (a7 := .int .i64 0) (a8 := .slice none 0 0) hq
                have hz9 := nine_size (w := V) (b := w.heap.size) (a0 := .int .i64 0) (a1 := .int .i64 0) (a2 := .int .i64 0) (a3 := .int .i64 0) (a4 := .slice none 0 0) (a5 := .int .i64 0) (a6 := .int .i64 0) (a7 := .int .i64 0) (a8 := .slice none 0 0)
                have hbl := nine_below (b := w.heap.size) (a0 := .int .i64 0) (a1 := .int .i64 0) (a2 := .int .i64 0) (a3 := .int .i64 0) (a4 := .slice none 0 0) (a5 := .int .i64 0) (a6 := .int .i64 0) (a7 := .int .i64 0) (a8 := .slice none 0 0) BB.out (Nat.le_refl _)
                unfold wnine at r
                obtain ⟨g0, g1, g2, g3, g4, g5, g6, g7, g8⟩ := nine_cells r
                refine bodyPost_ret (v := .agg #[.int .i64 0, .int .i64 0, .int .i64 0, .int .i64 0, .slice none 0 0, .int .i64 0, .int .i64 0, .int .i64 0, .slice none 0 0]) (by simp [results, Try.results75, go_sem, g0, g1, g2, g3, g4, g5, g6, g7, g8]) rfl ⟨⟨_, rfl, Fr.zero, FrIs.of (f := Fr.zero) SliceIs.none_ SliceIs.none_, ?_⟩, hbl⟩
                intro F k1 k2
                exfalso
                obtain ⟨e1, e2⟩ := HF.out F k1 k2
                obtain ⟨s1, s2, _⟩ := HG5.out F k1 k2
                obtain ⟨x, hx⟩ := Pc.get_at (l := F.pieces) (j := j) (by omega)
                obtain ⟨r1, r2, r3, r4⟩ := Fr.piece_at k1 s1 hx (top := 2147483647) (by omega)
                have htt := HTT.out
                rw [← k2, e2, Fr.t3_ok r1] at htt
                simp only [Prod.mk.injEq] at htt
                obtain ⟨q1, _⟩ := htt
                exact HOK.out ⟨by simp, by rw [← HG.out, ← q1, r3]⟩
              ·
                have hbad : ((et : Int) != 0) = true := by simp only [bne_iff_ne, ne_eq]; omega
                clear hok h0
                go_wp2_with fail
                clear d0 f0 d1 f1 d2 f2 d3 f3 d4 f4 d5 f5 d6 f6 d7 f7 d8 f8
                have r := nine_box (a0 := .int .i64 0) (a1 := .int .i64 0) (a2 := .int .i64 0) (a3 := .int .i64 0) (a4 := .slice none 0 0) (a5 := .int .i64 0) (a6 := .int .i64 0) (a7 := .int .i64 0) (a8 := .slice none 0 0) C2.out
                have hfar := fun (q : Nat) (hq : q ≠ w.heap.size) => nine_far (w := V) (b := w.heap.size) (a0 := .int .i64 0) (a1 := .int .i64 0) (a2 := .int .i64 0) (a3 := .int .i64 0) (a4 := .slice none 0 0) (a5 := .int .i64 0) (a6 := .int .i64 0) (a7 := .int .i64 0) (a8 := .slice none 0 0) hq
                have hz9 := nine_size (w := V) (b := w.heap.size) (a0 := .int .i64 0) (a1 := .int .i64 0) (a2 := .int .i64 0) (a3 := .int .i64 0) (a4 := .slice none 0 0) (a5 := .int .i64 0) (a6 := .int .i64 0) (a7 := .int .i64 0) (a8 := .slice none 0 0)
                have hbl := nine_below (b := w.heap.size) (a0 := .int .i64 0) (a1 := .int .i64 0) (a2 := .int .i64 0) (a3 := .int .i64 0) (a4 := .slice none 0 0) (a5 := .int .i64 0) (a6 := .int .i64 0) (a7 := .int .i64 0) (a8 := .slice none 0 0) BB.out (Nat.le_refl _)
                unfold wnine at r
                obtain ⟨g0, g1, g2, g3, g4, g5, g6, g7, g8⟩ := nine_cells r
                refine bodyPost_ret (v := .agg #[.int .i64 0, .int .i64 0, .int .i64 0, .int .i64 0, .slice none 0 0, .int .i64 0, .int .i64 0, .int .i64 0, .slice none 0 0]) (by simp [results, Try.results75, go_sem, g0, g1, g2, g3, g4, g5, g6, g7, g8]) rfl ⟨⟨_, rfl, Fr.zero, FrIs.of (f := Fr.zero) SliceIs.none_ SliceIs.none_, ?_⟩, hbl⟩
                intro F k1 k2
                exfalso
                obtain ⟨e1, e2⟩ := HF.out F k1 k2
                obtain ⟨s1, s2, _⟩ := HG5.out F k1 k2
                obtain ⟨x, hx⟩ := Pc.get_at (l := F.pieces) (j := j) (by omega)
                obtain ⟨r1, r2, r3, r4⟩ := Fr.piece_at k1 s1 hx (top := 2147483647) (by omega)
                have htt := HTT.out
                rw [← k2, e2, Fr.t3_ok r1] at htt
                simp only [Prod.mk.injEq] at htt
                obtain ⟨q1, _, q2⟩ := htt
                exact HOK.out ⟨q2.symm, by rw [← HG.out, ← q1, r3]⟩
          ·
            have HA9 := Lib.hid hacc; clear hacc
            have C2 := Lib.hid c2; have BB := Lib.hid hB; clear hB
            obtain ⟨d0, d1, d2, d3, d4, d5, d6, d7, d8⟩ := nine_cells c3
            obtain ⟨g0, g1, g2, g3, g4, g5, g6, g7, g8⟩ := nine_cells c2
            obtain ⟨f0, f1, f2, f3, f4, f5, f6, f7, f8⟩ := nine_free c2
            clear c2 c3
            go_wp2_with fail
            clear d0 f0 g0 d1 f1 g1 d2 f2 g2 d3 f3 g3 d4 f4 g4 d5 f5 g5 d6 f6 g6 d7 f7 g7 d8 f8 g8
            have hw2 := HW2.out
            have r := nine_box (a0 := .int .i64 5) (a1 := .int .i64 (a1 : Int)) (a2 := .int .i64 0) (a3 := .int .i64 0) (a4 := .slice UA j uc) (a5 := .int .i64 0) (a6 := .int .i64 0) (a7 := .int .i64 0) (a8 := .slice none 0 0) C2.out
            have hfar := fun (q : Nat) (hq : q ≠ w.heap.size) => nine_far (w := wr) (b := w.heap.size) (a0 := .int .i64 5) (a1 := .int .i64 (a1 : Int)) (a2 := .int .i64 0) (a3 := .int .i64 0) (a4 := .slice UA j uc) (a5 := .int .i64 0) (a6 := .int .i64 0) (a7 := .int .i64 0) (a8 := .slice none 0 0) hq
            have hz9 := nine_size (w := wr) (b := w.heap.size) (a0 := .int .i64 5) (a1 := .int .i64 (a1 : Int)) (a2 := .int .i64 0) (a3 := .int .i64 0) (a4 := .slice UA j uc) (a5 := .int .i64 0) (a6 := .int .i64 0) (a7 := .int .i64 0) (a8 := .slice none 0 0)
            have hbl := nine_below (b := w.heap.size) (a0 := .int .i64 5) (a1 := .int .i64 (a1 : Int)) (a2 := .int .i64 0) (a3 := .int .i64 0) (a4 := .slice UA j uc) (a5 := .int .i64 0) (a6 := .int .i64 0) (a7 := .int .i64 0) (a8 := .slice none 0 0) BB.out (Nat.le_refl _)
            unfold wnine at r
            obtain ⟨g0, g1, g2, g3, g4, g5, g6, g7, g8⟩ := nine_cells r
            refine bodyPost_ret (v := .agg #[.int .i64 5, .int .i64 (a1 : Int), .int .i64 0, .int .i64 0, .slice UA j uc, .int .i64 0, .int .i64 0, .int .i64 0, .slice none 0 0]) (by simp [results, Try.results75, go_sem, g0, g1, g2, g3, g4, g5, g6, g7, g8]) rfl ⟨⟨_, rfl, ⟨5, (a1 : Int), 0, 0, ps, 0, 0, 0, []⟩, FrIs.of (f := ⟨5, (a1 : Int), 0, 0, ps, 0, 0, 0, []⟩) ((HA9.out.slice.soft.keep fun q hq1 _ => hfar q (by omega)).widen (by omega) (Nat.le_of_eq hz9.symm)) SliceIs.none_, ?_⟩, hbl⟩
            refine Fr.isRd_rep fun F k1 k2 => ?_
            obtain ⟨e1, _⟩ := HF.out F k1 k2
            obtain ⟨q1, q2⟩ := HGD.out F k1 k2
            obtain ⟨_, s2, _⟩ := HG5.out F k1 k2
            have hlen := (Fr.right_pieces k1 q1).2.1
            exact ⟨q1, q2, by rw [e1, List.take_of_length_le (by have := HM.out; omega)]⟩
        ·
          have HA9 := Lib.hid hacc; clear hacc
          have C2 := Lib.hid c2; have BB := Lib.hid hB; clear hB
          obtain ⟨d0, d1, d2, d3, d4, d5, d6, d7, d8⟩ := nine_cells c3
          obtain ⟨g0, g1, g2, g3, g4, g5, g6, g7, g8⟩ := nine_cells c2
          obtain ⟨f0, f1, f2, f3, f4, f5, f6, f7, f8⟩ := nine_free c2
          clear c2 c3
          go_wp2_with fail
          clear d0 f0 g0 d1 f1 g1 d2 f2 g2 d3 f3 g3 d4 f4 g4 d5 f5 g5 d6 f6 g6 d7 f7 g7 d8 f8 g8
          have hw2 := HW2.out
          have r := nine_box (a0 := .int .i64 5) (a1 := .int .i64 (a1 : Int)) (a2 := .int .i64 0) (a3 := .int .i64 0) (a4 := .slice UA j uc) (a5 := .int .i64 0) (a6 := .int .i64 0) (a7 := .int .i64 0) (a8 := .slice none 0 0) C2.out
          have hfar := fun (q : Nat) (hq : q ≠ w.heap.size) => nine_far (w := wr) (b := w.heap.size) (a0 := .int .i64 5) (a1 := .int .i64 (a1 : Int)) (a2 := .int .i64 0) (a3 := .int .i64 0) (a4 := .slice UA j uc) (a5 := .int .i64 0) (a6 := .int .i64 0) (a7 := .int .i64 0) (a8 := .slice none 0 0) hq
          have hz9 := nine_size (w := wr) (b := w.heap.size) (a0 := .int .i64 5) (a1 := .int .i64 (a1 : Int)) (a2 := .int .i64 0) (a3 := .int .i64 0) (a4 := .slice UA j uc) (a5 := .int .i64 0) (a6 := .int .i64 0) (a7 := .int .i64 0) (a8 := .slice none 0 0)
          have hbl := nine_below (b := w.heap.size) (a0 := .int .i64 5) (a1 := .int .i64 (a1 : Int)) (a2 := .int .i64 0) (a3 := .int .i64 0) (a4 := .slice UA j uc) (a5 := .int .i64 0) (a6 := .int .i64 0) (a7 := .int .i64 0) (a8 := .slice none 0 0) BB.out (Nat.le_refl _)
          unfold wnine at r
          obtain ⟨g0, g1, g2, g3, g4, g5, g6, g7, g8⟩ := nine_cells r
          refine bodyPost_ret (v := .agg #[.int .i64 5, .int .i64 (a1 : Int), .int .i64 0, .int .i64 0, .slice UA j uc, .int .i64 0, .int .i64 0, .int .i64 0, .slice none 0 0]) (by simp [results, Try.results75, go_sem, g0, g1, g2, g3, g4, g5, g6, g7, g8]) rfl ⟨⟨_, rfl, ⟨5, (a1 : Int), 0, 0, ps, 0, 0, 0, []⟩, FrIs.of (f := ⟨5, (a1 : Int), 0, 0, ps, 0, 0, 0, []⟩) ((HA9.out.slice.soft.keep fun q hq1 _ => hfar q (by omega)).widen (by omega) (Nat.le_of_eq hz9.symm)) SliceIs.none_, ?_⟩, hbl⟩
          refine Fr.isRd_rep fun F k1 k2 => ?_
          obtain ⟨e1, _⟩ := HF.out F k1 k2
          obtain ⟨q1, q2⟩ := HGD.out F k1 k2
          obtain ⟨_, s2, _⟩ := HG5.out F k1 k2
          have hlen := (Fr.right_pieces k1 q1).2.1
          exact ⟨q1, q2, by rw [e1, List.take_of_length_le (by have := HM.out; omega)]⟩
    have b0 : (K == 0) = false := by simpa using h0
    have b5 : (K == 5) = false := by simpa using h5
    have C2 := Lib.hid c2'; have BB := Lib.hid hB2; clear hB2
    obtain ⟨d0, d1, d2, d3, d4, d5, d6, d7, d8⟩ := nine_cells c3'
    obtain ⟨g0, g1, g2, g3, g4, g5, g6, g7, g8⟩ := nine_cells c2'
    obtain ⟨f0, f1, f2, f3, f4, f5, f6, f7, f8⟩ := nine_free c2'
    clear c2' c3'
    go_wp2_with fail
    clear d0 f0 g0 d1 f1 g1 d2 f2 g2 d3 f3 g3 d4 f4 g4 d5 f5 g5 d6 f6 g6 d7 f7 g7 d8 f8 g8
    clear b0 b5
    have r := nine_box (a0 := .int .i64 K) (a1 := .int .i64 (a1 : Int)) (a2 := .int .i64 0) (a3 := .int .i64 0) (a4 := .slice none 0 0) (a5 := .int .i64 0) (a6 := .int .i64 0) (a7 := .int .i64 0) (a8 := .slice none 0 0) C2.out
    have hfar := fun (q : Nat) (hq : q ≠ w.heap.size) => nine_far (w := W2) (b := w.heap.size) (a0 := .int .i64 K) (a1 := .int .i64 (a1 : Int)) (a2 := .int .i64 0) (a3 := .int .i64 0) (a4 := .slice none 0 0) (a5 := .int .i64 0) (a6 := .int .i64 0) (a7 := .int .i64 0) (a8 := .slice none 0 0) hq
    have hz9 := nine_size (w := W2) (b := w.heap.size) (a0 := .int .i64 K) (a1 := .int .i64 (a1 : Int)) (a2 := .int .i64 0) (a3 := .int .i64 0) (a4 := .slice none 0 0) (a5 := .int .i64 0) (a6 := .int .i64 0) (a7 := .int .i64 0) (a8 := .slice none 0 0)
    have hbl := nine_below (b := w.heap.size) (a0 := .int .i64 K) (a1 := .int .i64 (a1 : Int)) (a2 := .int .i64 0) (a3 := .int .i64 0) (a4 := .slice none 0 0) (a5 := .int .i64 0) (a6 := .int .i64 0) (a7 := .int .i64 0) (a8 := .slice none 0 0) BB.out (Nat.le_refl _)
    unfold wnine at r
    obtain ⟨g0, g1, g2, g3, g4, g5, g6, g7, g8⟩ := nine_cells r
    refine bodyPost_ret (v := .agg #[.int .i64 K, .int .i64 (a1 : Int), .int .i64 0, .int .i64 0, .slice none 0 0, .int .i64 0, .int .i64 0, .int .i64 0, .slice none 0 0]) (by simp [results, Try.results75, go_sem, g0, g1, g2, g3, g4, g5, g6, g7, g8]) rfl ⟨⟨_, rfl, ⟨K, (a1 : Int), 0, 0, [], 0, 0, 0, []⟩, FrIs.of (f := ⟨K, (a1 : Int), 0, 0, [], 0, 0, 0, []⟩) SliceIs.none_ SliceIs.none_, ?_⟩, hbl⟩
    have hK := HK0.out
    subst hK
    exact Fr.isRd_one (by omega) (by omega) (by omega) fun F k1 k2 => HGD.out F k1 k2
end Go.Proofs.Ytdfgnmdofjhnkaa

/- frame.report. -/
namespace Go.Proofs.Ytdfgnmdofjhnkaa
open Go.RowKit

theorem Fr.rep_eq {F : Fr} {n1 : Int} {ps : List Pc.Piece} (hr : Fr.right F = true) (h1 : F.kind = 5) (h2 : F.epoch = n1) (h3 : ps = F.pieces) : (⟨5, n1, 0, 0, ps, 0, 0, 0, []⟩ : Fr) = F := by
  have ho := Fr.right_only hr
  rw [ho]
  unfold Fr.only
  rw [if_neg (by omega), if_pos h1, h2, h3]

set_option maxRecDepth 100000 in
set_option maxHeartbeats 8000000 in
theorem freport_any (s : ByteArray) (at_ : Nat) (w : World) (hs : s.size ≤ 1000000) (h : at_ ≤ s.size) : Calls Try.prog 73 #[.string s, .int .i64 at_] w
    fun y w' => (∃ u, y = .returned u ∧ ∃ f, FrIs false w' w.heap.size w'.heap.size u f ∧ ∀ F, Fr.right F = true → F.kind = 5 → Fr.body F = s.data.toList → at_ = (W.put 5).length → f = F) ∧ Below w.heap.size w w' := by
  have hsl : s.data.toList.length = s.size := by simp
  have hal : at_ ≤ s.data.toList.length := by omega
  obtain ⟨⟨n1, a1, e1⟩, hg1⟩ : ∃ q, Fr.g3 s.data.toList at_ = q := ⟨_, rfl⟩
  have la1 : a1 ≤ s.size := by have := Fr.g3_le hal; rw [hg1] at this; dsimp only at this; omega
  obtain ⟨⟨n2, a2, e2⟩, hg2⟩ : ∃ q, Fr.g3 s.data.toList a1 = q := ⟨_, rfl⟩
  have la2 : a2 ≤ s.size := by have := Fr.g3_le (l := s.data.toList) (at_ := a1) (by omega); rw [hg2] at this; dsimp only at this; omega
  have ln2 : n2 ≤ 2147483647 := by have := Fr.g3_num s.data.toList a1; rw [hg2] at this; exact this
  have hc1 := fun w => get3_any s at_ w (by omega) h
  have hc2 := fun w => get3_any s a1 w (by omega) la1
  rw [hg1] at hc1; rw [hg2] at hc2
  have HC1 := Lib.hid hc1; have HC2 := Lib.hid hc2; have HG1 := Lib.hid hg1; have HG2 := Lib.hid hg2; have HSL := Lib.hid hsl; clear hc1 hc2 hg1 hg2 hsl hal
  go_enter Try.func73, Try.ntmps73
  go_upto_region 2 with fail
  refine name_wp fun W0 hW0 => ?_
  have b4 : Box W0 w.heap.size #[.int .i64 0, .int .i64 0, .int .i64 0, .int .i64 0, .slice none 0 0, .int .i64 0, .int .i64 0, .int .i64 0, .slice none 0 0] 58 := hW0 ▸ (Box.at' _ _ rfl).alloc _
  have b5 : Box W0 (w.heap.size + 1) #[.int .i64 5, .int .i64 0, .int .i64 0, .int .i64 0, .slice none 0 0, .int .i64 0, .int .i64 0, .int .i64 0, .slice none 0 0] 58 := hW0 ▸ Box.at' _ _ (by simp)
  have hB : Below w.heap.size w W0 := hW0 ▸ ((Below.refl _ _).alloc (Nat.le_refl _) _).alloc (by simp) _
  clear hW0
  go_wp2_with fail
  refine (HC1.out _).mono ?_
  rintro z w1 ⟨rfl, hb⟩
  replace b4 := b4.next hb; replace b5 := b5.next hb
  replace hB := hB.trans (hb.mono hB.size)
  clear hb
  go_wp2_with fail
  refine (HC2.out _).mono ?_
  rintro z w2 ⟨rfl, hb⟩
  replace b4 := b4.next hb; replace b5 := b5.next hb
  replace hB := hB.trans (hb.mono hB.size)
  clear hb
  obtain ⟨d0, d1, d2, d3, d4, d5, d6, d7, d8⟩ := nine_cells b5
  obtain ⟨f0, f1, f2, f3, f4, f5, f6, f7, f8⟩ := nine_free b5
  go_upto_region 5 with fail
  clear d0 d1 d2 d3 d4 d5 d6 d7 d8
  clear f0 f1 f2 f3 f4 f5 f6 f7 f8
  refine name_wp fun W1 hW1 => ?_
  have c5 : Box W1 (w.heap.size + 1) #[.int .i64 5, .int .i64 (n1 : Int), .int .i64 0, .int .i64 0, .slice none 0 0, .int .i64 0, .int .i64 0, .int .i64 0, .slice none 0 0] 58 := by rw [← hW1]; exact blk_set b5 1 _
  have c4 : Box W1 w.heap.size #[.int .i64 0, .int .i64 0, .int .i64 0, .int .i64 0, .slice none 0 0, .int .i64 0, .int .i64 0, .int .i64 0, .slice none 0 0] 58 := by rw [← hW1]; exact (heap_setCell_other _ _ _ _ (Nat.ne_of_lt (Nat.lt_succ_self _))).trans b4
  have hB1 : Below w.heap.size w W1 := by rw [← hW1]; exact hB.setCell (Nat.le_succ _) _
  clear hW1 b4 b5 hB
  have hw5 : w.heap.size + 1 < W1.heap.size := c5.lt
  have HW5 := Lib.hid hw5; clear hw5
  obtain ⟨m, hm⟩ : ∃ m : Nat, min (n2 : Int) 6 = (m : Int) := ⟨(min (n2 : Int) 6).toNat, by omega⟩
  have hm6 : m ≤ 6 := by omega
  go_wp2_with fail
  have hgood : ∀ F, Fr.right F = true → F.kind = 5 → Fr.body F = s.data.toList → at_ = (W.put 5).length → n1 = F.epoch.toNat ∧ m = F.pieces.length ∧ a2 = Fr.off F 0 := Fr.rep_head HG1.out HG2.out hm
  have HGD := Lib.hid hgood; clear hgood
  go_loopg [1, 34] m (fun kk a i wr => ∃ (j c : Nat) (ps : List Pc.Piece) (v : Value), a = .int .i64 (c : Int) ∧ i = .int .i64 (j : Int) ∧ j ≤ m ∧ kk = m - j ∧ c ≤ s.size ∧ Acc Rep.piece 26 W1.heap.size wr v ps ∧ ps.length = j ∧ Box wr (w.heap.size + 1) #[.int .i64 5, .int .i64 (n1 : Int), .int .i64 0, .int .i64 0, v, .int .i64 0, .int .i64 0, .int .i64 0, .slice none 0 0] 58 ∧ Box wr w.heap.size #[.int .i64 0, .int .i64 0, .int .i64 0, .int .i64 0, .slice none 0 0, .int .i64 0, .int .i64 0, .int .i64 0, .slice none 0 0] 58 ∧ Below w.heap.size w wr ∧ W1.heap.size ≤ wr.heap.size ∧
      (∀ F, Fr.right F = true → F.kind = 5 → Fr.body F = s.data.toList → at_ = (W.put 5).length → ps = F.pieces.take j ∧ c = Fr.off F j))
  case atStart => exact ⟨0, a2, [], _, rfl, rfl, by omega, by omega, la2, Acc.nil _ _ _ _, rfl, c5, c4, hB1, Nat.le_refl _, fun F h1 h2 h3 h4 => ⟨rfl, (HGD.out F h1 h2 h3 h4).2.2⟩⟩
  case round =>
    clear c5 c4 hB1
    obtain ⟨j, c, ps, v, rfl, rfl, hj, hk, hc, hacc, hpl, c5, c4, hB, hz, hF⟩ := hrel
    have HK := Lib.hid hk; have HF := Lib.hid hF; clear hk hF
    by_cases hlt : j < m
    ·
      obtain ⟨⟨tt, c2, et⟩, ht⟩ : ∃ q, Fr.t3 s.data.toList c 1048576 = q := ⟨_, rfl⟩
      have hle := Fr.t3_le (l := s.data.toList) (at_ := c) (top := 1048576) (by have := HSL.out; omega)
      rw [ht] at hle
      dsimp only at hle
      have hct := take3_any s c 1048576 wr (by omega) hc
      rw [ht] at hct
      have HCT := Lib.hid hct; have HTT := Lib.hid ht; clear hct ht
      have lt1 : tt.length ≤ s.size := by have := HSL.out; omega
      have lc2 : c2 ≤ s.size := by have := HSL.out; omega
      clear hle
      go_wp2_with fail
      refine HCT.out.mono ?_
      rintro z w3 ⟨rfl, hb⟩
      replace hacc := hacc.below hb; replace c5 := c5.next hb; replace c4 := c4.next hb
      replace hB := hB.trans (hb.mono hB.size)
      replace hz := Nat.le_trans hz hb.size
      clear hb
      go_wp2_with fail
      refine (decode_any ⟨tt.toArray⟩ _ (by show tt.toArray.size ≤ 1000000; simp; omega)).mono ?_
      rw [show (⟨tt.toArray⟩ : ByteArray).data.toList = tt from by simp]
      obtain ⟨D, hD⟩ : ∃ q, Pc.dec tt = q := ⟨_, rfl⟩
      obtain ⟨G, hG⟩ : ∃ q, Pc.decE tt = q := ⟨_, rfl⟩
      rw [hD, hG]
      have HD := Lib.hid hD; have HG := Lib.hid hG; clear hD hG
      rintro z w4 ⟨⟨v2, rfl, hp⟩, hb⟩
      replace c5 := c5.next hb; replace c4 := c4.next hb
      replace hB := hB.trans (hb.mono hB.size)
      obtain ⟨cs, rfl, hcs⟩ := hp.cells
      have hcs0 := hcs
      obtain ⟨r3, r4, r5, rfl, ⟨Q3, q3, rfl, _⟩, ⟨Q4, q4, rfl, _⟩, ⟨Q5, q5, rfl, _⟩⟩ := hcs0
      obtain ⟨UA, uc, hv, _, _, _⟩ := id hacc.slice
      rw [hpl] at hv
      subst hv
      have HCS := Lib.hid hcs; clear hcs hp
      go_upto_region 9 with fail
      refine name_wp fun V hV => ?_
      have bp : Box V w4.heap.size #[.int .i64 D.node, .int .i64 D.state, .int .i64 D.steps, .slice Q3 D.sent.length q3, .slice Q4 D.inn.length q4, .slice Q5 D.out.length q5] 26 := hV ▸ Box.new _ _ _
      have hbV : Below w4.heap.size w4 V := hV ▸ (Below.refl _ _).alloc (Nat.le_refl _) _
      clear hV
      have h3V : Below w3.heap.size w3 V := hb.trans (hbV.mono hb.size)
      have hcV : Rep.piece.is true V (rng w3.heap.size V.heap.size) [.int .i64 D.node, .int .i64 D.state, .int .i64 D.steps, .slice Q3 D.sent.length q3, .slice Q4 D.inn.length q4, .slice Q5 D.out.length q5] D := Rep.piece.widen (Rep.piece.keep HCS.out (fun q hq => hbV.block q hq.2)) (rng_widen (Nat.le_refl _) hbV.size)
      replace c5 := c5.next hbV; replace c4 := c4.next hbV
      replace hB := hB.trans (hbV.mono hB.size)
      have HCV := Lib.hid hcV; clear hcV HCS hb hbV
      have hnl : ps.length ≤ 1000000 := by omega
      by_cases hok : et = 0 ∧ G = 0
      ·
        obtain ⟨rfl, rfl⟩ := hok
        obtain ⟨d0, d1, d2, d3, d4, d5, d6, d7, d8⟩ := nine_cells c5
        obtain ⟨p0, p1, p2, p3, p4, p5⟩ := bp.six
        have hbl5 := c5.lt; have hblp := bp.lt
        go_wp2_with (at_builtin; refine wpList_accB (r := Rep.piece) (w0 := w3) (y := D) rfl (.tmp 56) (.tmp 58) 55 rfl W1.heap.size 26 Try.infoPiece Try.underlying55 rfl (by omega) (.slice UA j uc) rfl hacc (fun b h1 h2 => h3V.block b h2) h3V.size hz 1 _ _ rfl rfl HCV.out hnl ?_; intro v9 w9 hacc9 hgr9 hb9; obtain ⟨NA, nc, hv9, _, _, _⟩ := id hacc9.slice; rw [show (ps ++ [D]).length = j + 1 from (by rw [List.length_append, hpl]; rfl)] at hv9; subst hv9; have c59 : Box w9 (w.heap.size + 1) _ _ := (hb9.block _ HW5.out).trans c5; obtain ⟨g0, g1, g2, g3, g4, g5, g6, g7, g8⟩ := nine_cells c59; obtain ⟨f0, f1, f2, f3, f4, f5, f6, f7, f8⟩ := nine_free c59)
        go_roundg (m - (j + 1))
        case rel =>
          have hne : w.heap.size ≠ w.heap.size + 1 := by omega
          refine ⟨j + 1, c2, ps ++ [D], _, rfl, by simp, by omega, rfl, lc2, hacc9.move (fun q h1 _ => heap_setCell_other _ _ _ _ (Nat.ne_of_gt (Nat.lt_of_lt_of_le HW5.out h1))) (by simp [World.setCell]), by rw [List.length_append, hpl]; rfl, blk_set c59 4 _, (heap_setCell_other _ _ _ _ hne).trans ((hb9.block _ (Nat.lt_of_succ_lt HW5.out)).trans c4), (hB.trans (hb9.mono (by have := HW5.out; omega))).setCell (Nat.le_succ _) _, by simp only [World.setCell, Array.size_modify]; exact Nat.le_trans (Nat.le_trans hz h3V.size) hb9.size, fun F k1 k2 k3 k4 => ?_⟩
          obtain ⟨e1, e2⟩ := HF.out F k1 k2 k3 k4
          obtain ⟨x, hx⟩ := Pc.get_at (l := F.pieces) (j := j) (by have := (HGD.out F k1 k2 k3 k4).2.1; omega)
          obtain ⟨r1, r2, r3, r4⟩ := Fr.piece_at k1 k2 hx (top := 1048576) (by omega)
          have htt := HTT.out
          rw [← k3, e2, Fr.t3_ok r1] at htt
          simp only [Prod.mk.injEq] at htt
          obtain ⟨rfl, rfl, _⟩ := htt
          exact ⟨by rw [Pc.take_next hx, ← e1, ← HD.out, r2], r4.symm⟩
        case measure => have := HK.out; omega
      ·
        have HOK := Lib.hid hok; have C4 := Lib.hid c4; have BB := Lib.hid hB; clear hB c5
        obtain ⟨d0, d1, d2, d3, d4, d5, d6, d7, d8⟩ := nine_cells c4
        obtain ⟨f0, f1, f2, f3, f4, f5, f6, f7, f8⟩ := nine_free c4
        clear c4
        by_cases h0 : et = 0
        ·
          have hbad : ((G : Int) != 0) = true := by simp only [bne_iff_ne, ne_eq]; exact fun h => HOK.out ⟨h0, by omega⟩
          subst h0
          clear hok
          go_wp2_with fail
          clear d0 f0 d1 f1 d2 f2 d3 f3 d4 f4 d5 f5 d6 f6 d7 f7 d8 f8
          have r := nine_box (a0 := .int .i64 0) (a1 := .int .i64 0) (a2 := .int .i64 0) (a3 := .int .i64 0) (a4 := .slice none 0 0) (a5 := .int .i64 0) (a6 := .int .i64 0) (a7 := .int .i64 0) (a8 := .slice none 0 0) C4.out
          have hfar := fun (q : Nat) (hq : q ≠ w.heap.size) => nine_far (w := V) (b := w.heap.size) (a0 := .int .i64 0) (a1 := .int .i64 0) (a2 := .int .i64 0) (a3 := .int .i64 0) (a4 := .slice none 0 0) (a5 := .int .i64 0) (a6 := .int .i64 0) (a7 := .int .i64 0) (a8 := .slice none 0 0) hq
          have hz9 := nine_size (w := V) (b := w.heap.size) (a0 := .int .i64 0) (a1 := .int .i64 0) (a2 := .int .i64 0) (a3 := .int .i64 0) (a4 := .slice none 0 0) (a5 := .int .i64 0) (a6 := .int .i64 0) (a7 := .int .i64 0) (a8 := .slice none 0 0)
          have hbl := nine_below (b := w.heap.size) (a0 := .int .i64 0) (a1 := .int .i64 0) (a2 := .int .i64 0) (a3 := .int .i64 0) (a4 := .slice none 0 0) (a5 := .int .i64 0) (a6 := .int .i64 0) (a7 := .int .i64 0) (a8 := .slice none 0 0) BB.out (Nat.le_refl _)
          unfold wnine at r
          obtain ⟨g0, g1, g2, g3, g4, g5, g6, g7, g8⟩ := nine_cells r
          refine bodyPost_ret (v := .agg #[.int .i64 0, .int .i64 0, .int .i64 0, .int .i64 0, .slice none 0 0, .int .i64 0, .int .i64 0, .int .i64 0, .slice none 0 0]) (by simp [results, Try.results73, go_sem, g0, g1, g2, g3, g4, g5, g6, g7, g8]) rfl ⟨⟨_, rfl, Fr.zero, FrIs.of (f := Fr.zero) SliceIs.none_ SliceIs.none_, ?_⟩, hbl⟩
          intro F k1 k2 k3 k4
          exfalso
          obtain ⟨e1, e2⟩ := HF.out F k1 k2 k3 k4
          obtain ⟨x, hx⟩ := Pc.get_at (l := F.pieces) (j := j) (by have := (HGD.out F k1 k2 k3 k4).2.1; omega)
          obtain ⟨r1, r2, r3, r4⟩ := Fr.piece_at k1 k2 hx (top := 1048576) (by omega)
          have htt := HTT.out
          rw [← k3, e2, Fr.t3_ok r1] at htt
          simp only [Prod.mk.injEq] at htt
          obtain ⟨q1, _⟩ := htt
          exact HOK.out ⟨by simp, by rw [← HG.out, ← q1, r3]⟩
        ·
          have hbad : ((et : Int) != 0) = true := by simp only [bne_iff_ne, ne_eq]; omega
          clear hok h0
          go_wp2_with fail
          clear d0 f0 d1 f1 d2 f2 d3 f3 d4 f4 d5 f5 d6 f6 d7 f7 d8 f8
          have r := nine_box (a0 := .int .i64 0) (a1 := .int .i64 0) (a2 := .int .i64 0) (a3 := .int .i64 0) (a4 := .slice none 0 0) (a5 := .int .i64 0) (a6 := .int .i64 0) (a7 := .int .i64 0) (a8 := .slice none 0 0) C4.out
          have hfar := fun (q : Nat) (hq : q ≠ w.heap.size) => nine_far (w := V) (b := w.heap.size) (a0 := .int .i64 0) (a1 := .int .i64 0) (a2 := .int .i64 0) (a3 := .int .i64 0) (a4 := .slice none 0 0) (a5 := .int .i64 0) (a6 := .int .i64 0) (a7 := .int .i64 0) (a8 := .slice none 0 0) hq
          have hz9 := nine_size (w := V) (b := w.heap.size) (a0 := .int .i64 0) (a1 := .int .i64 0) (a2 := .int .i64 0) (a3 := .int .i64 0) (a4 := .slice none 0 0) (a5 := .int .i64 0) (a6 := .int .i64 0) (a7 := .int .i64 0) (a8 := .slice none 0 0)
          have hbl := nine_below (b := w.heap.size) (a0 := .int .i64 0) (a1 := .int .i64 0) (a2 := .int .i64 0) (a3 := .int .i64 0) (a4 := .slice none 0 0) (a5 := .int .i64 0) (a6 := .int .i64 0) (a7 := .int .i64 0) (a8 := .slice none 0 0) BB.out (Nat.le_refl _)
          unfold wnine at r
          obtain ⟨g0, g1, g2, g3, g4, g5, g6, g7, g8⟩ := nine_cells r
          refine bodyPost_ret (v := .agg #[.int .i64 0, .int .i64 0, .int .i64 0, .int .i64 0, .slice none 0 0, .int .i64 0, .int .i64 0, .int .i64 0, .slice none 0 0]) (by simp [results, Try.results73, go_sem, g0, g1, g2, g3, g4, g5, g6, g7, g8]) rfl ⟨⟨_, rfl, Fr.zero, FrIs.of (f := Fr.zero) SliceIs.none_ SliceIs.none_, ?_⟩, hbl⟩
          intro F k1 k2 k3 k4
          exfalso
          obtain ⟨e1, e2⟩ := HF.out F k1 k2 k3 k4
          obtain ⟨x, hx⟩ := Pc.get_at (l := F.pieces) (j := j) (by have := (HGD.out F k1 k2 k3 k4).2.1; omega)
          obtain ⟨r1, r2, r3, r4⟩ := Fr.piece_at k1 k2 hx (top := 1048576) (by omega)
          have htt := HTT.out
          rw [← k3, e2, Fr.t3_ok r1] at htt
          simp only [Prod.mk.injEq] at htt
          obtain ⟨q1, _, q2⟩ := htt
          exact HOK.out ⟨q2.symm, by rw [← HG.out, ← q1, r3]⟩
    ·
      obtain ⟨UA, uc, hv, _, _, _⟩ := id hacc.slice
      rw [hpl] at hv
      subst hv
      have HA9 := Lib.hid hacc; have C4 := Lib.hid c4; have BB := Lib.hid hB; clear hacc hB
      obtain ⟨d0, d1, d2, d3, d4, d5, d6, d7, d8⟩ := nine_cells c5
      obtain ⟨g0, g1, g2, g3, g4, g5, g6, g7, g8⟩ := nine_cells c4
      obtain ⟨f0, f1, f2, f3, f4, f5, f6, f7, f8⟩ := nine_free c4
      clear c4 c5
      go_wp2_with fail
      clear d0 f0 g0 d1 f1 g1 d2 f2 g2 d3 f3 g3 d4 f4 g4 d5 f5 g5 d6 f6 g6 d7 f7 g7 d8 f8 g8
      have hw5 := HW5.out
      have r := nine_box (a0 := .int .i64 5) (a1 := .int .i64 (n1 : Int)) (a2 := .int .i64 0) (a3 := .int .i64 0) (a4 := .slice UA j uc) (a5 := .int .i64 0) (a6 := .int .i64 0) (a7 := .int .i64 0) (a8 := .slice none 0 0) C4.out
      have hfar := fun (q : Nat) (hq : q ≠ w.heap.size) => nine_far (w := wr) (b := w.heap.size) (a0 := .int .i64 5) (a1 := .int .i64 (n1 : Int)) (a2 := .int .i64 0) (a3 := .int .i64 0) (a4 := .slice UA j uc) (a5 := .int .i64 0) (a6 := .int .i64 0) (a7 := .int .i64 0) (a8 := .slice none 0 0) hq
      have hz9 := nine_size (w := wr) (b := w.heap.size) (a0 := .int .i64 5) (a1 := .int .i64 (n1 : Int)) (a2 := .int .i64 0) (a3 := .int .i64 0) (a4 := .slice UA j uc) (a5 := .int .i64 0) (a6 := .int .i64 0) (a7 := .int .i64 0) (a8 := .slice none 0 0)
      have hbl := nine_below (b := w.heap.size) (a0 := .int .i64 5) (a1 := .int .i64 (n1 : Int)) (a2 := .int .i64 0) (a3 := .int .i64 0) (a4 := .slice UA j uc) (a5 := .int .i64 0) (a6 := .int .i64 0) (a7 := .int .i64 0) (a8 := .slice none 0 0) BB.out (Nat.le_refl _)
      unfold wnine at r
      obtain ⟨g0, g1, g2, g3, g4, g5, g6, g7, g8⟩ := nine_cells r
      refine bodyPost_ret (v := .agg #[.int .i64 5, .int .i64 (n1 : Int), .int .i64 0, .int .i64 0, .slice UA j uc, .int .i64 0, .int .i64 0, .int .i64 0, .slice none 0 0]) (by simp [results, Try.results73, go_sem, g0, g1, g2, g3, g4, g5, g6, g7, g8]) rfl ⟨⟨_, rfl, ⟨5, (n1 : Int), 0, 0, ps, 0, 0, 0, []⟩, FrIs.of (f := ⟨5, (n1 : Int), 0, 0, ps, 0, 0, 0, []⟩) ((HA9.out.slice.soft.keep fun q hq1 _ => hfar q (by omega)).widen (by omega) (Nat.le_of_eq hz9.symm)) SliceIs.none_, ?_⟩, hbl⟩
      intro F k1 k2 k3 k4
      obtain ⟨e1, e2⟩ := HF.out F k1 k2 k3 k4
      obtain ⟨q1, q2, _⟩ := HGD.out F k1 k2 k3 k4
      have hps : F.pieces.take j = F.pieces := List.take_of_length_le (by omega)
      have hb1 := (Fr.right_pieces k1 k2).1
      exact Fr.rep_eq k1 k2 (by omega) (e1.trans hps)
end Go.Proofs.Ytdfgnmdofjhnkaa
