/- Lemmas, walks and contracts that the statements of this seat are proved by. -/
import Derived.Test.YtdfgnmdofjhnkaaG16
import Derived.Test.YtdfgnmdofjhnkaaG17
import Derived.Test.YtdfgnmdofjhnkaaG14
/- Both Decodes. -/
namespace Go.Proofs.Ytdfgnmdofjhnkaa
open Go.RowKit

set_option maxRecDepth 100000 in
set_option maxHeartbeats 8000000 in
theorem frdecode_any (s : ByteArray) (w : World) (hs : s.size ≤ 1000000) : Calls Try.prog 34 #[.string s] w
    fun y w' => (∃ u, y = .returned (.tuple #[u, .int .i64 (Fr.decE s.data.toList)]) ∧ FrIs false w' 0 w'.heap.size u (Fr.dec s.data.toList)) ∧ Below w.heap.size w w' := by
  obtain ⟨⟨k, a, e⟩, hg⟩ : ∃ q, Fr.g3 s.data.toList 0 = q := ⟨_, rfl⟩
  have la : a ≤ s.size := by have := Fr.g3_le (l := s.data.toList) (at_ := 0) (by simp); rw [hg] at this; dsimp only at this; simpa using this
  have hc := fun w => get3_any s 0 w (by omega) (Nat.zero_le _)
  rw [hg] at hc
  have hkind := Fr.kind_g3 hg
  obtain ⟨K, hK⟩ : ∃ K : Int, (k : Int) = K := ⟨_, rfl⟩
  dsimp only at hc
  rw [hK] at hc
  simp only [hK] at hkind
  have HC := Lib.hid hc; have HKIND := Lib.hid hkind; clear hc hg hkind hK
  go_enter Try.func34, Try.ntmps34
  go_upto_region 1 with fail
  refine name_wp fun W0 hW0 => ?_
  have c2 : Box W0 w.heap.size #[.int .i64 0, .int .i64 0, .int .i64 0, .int .i64 0, .slice none 0 0, .int .i64 0, .int .i64 0, .int .i64 0, .slice none 0 0] 58 := hW0 ▸ Box.at' _ _ rfl
  have hB : Below w.heap.size w W0 := hW0 ▸ (Below.refl _ _).alloc (Nat.le_refl _) _
  clear hW0
  have hw7 := c2.lt
  have HW7 := Lib.hid hw7; clear hw7
  go_wp2_with fail
  refine (HC.out _).mono ?_
  rintro z w1 ⟨rfl, hb⟩
  replace c2 := c2.next hb
  replace hB := hB.trans (hb.mono hB.size)
  have hsz := hb.size
  have HSZ := Lib.hid hsz; clear hsz hb
  by_cases he : e = 0
  ·
    subst he
    go_upto_region 5 with fail
    refine name_wp fun W1 hW1 => ?_
    have b7 : Box W1 w1.heap.size #[.int .i64 0, .int .i64 0, .int .i64 0, .int .i64 0, .slice none 0 0, .int .i64 0, .int .i64 0, .int .i64 0, .slice none 0 0] 58 := hW1 ▸ Box.at' _ _ rfl
    have hb1 : Below w1.heap.size w1 W1 := hW1 ▸ (Below.refl _ _).alloc (Nat.le_refl _) _
    clear hW1
    replace c2 := c2.next hb1
    replace hB := hB.trans (hb1.mono hB.size)
    clear hb1
    have hne : w1.heap.size ≠ w.heap.size := by have := HW7.out; have := HSZ.out; omega
    have HNE := Lib.hid hne
    have hb7 := b7.lt
    have HB7 := Lib.hid hb7; clear hb7 hne
    by_cases h5 : K = 5
    ·
      subst h5
      go_wp2_with fail
      refine (freport_any s a _ hs la).mono ?_
      rintro z w2 ⟨⟨u, rfl, f, hf, hrd⟩, hb⟩
      obtain ⟨A, B, ka, lb, rfl, h1, h2⟩ := hf
      have hir : Fr.IsRd s.data.toList f := fun F k1 k2 => hrd F k1 (HKIND.out F k1 k2).2.1 k2 (by have h := HKIND.out F k1 k2; rw [← h.2.1]; exact h.2.2)
      have HRD := Lib.hid hir; clear hrd hir
      replace c2 := c2.next hb; replace b7 := b7.next hb; replace hB := hB.trans (hb.mono hB.size)
      clear hb
      obtain ⟨d0, d1, d2, d3, d4, d5, d6, d7, d8⟩ := nine_cells b7
      obtain ⟨f0, f1, f2, f3, f4, f5, f6, f7, f8⟩ := nine_free b7
      have hbl7 := b7.lt
      go_upto_region 10 with fail
      have r := nine_box (a0 := .int .i64 f.kind) (a1 := .int .i64 f.epoch) (a2 := .int .i64 f.seq) (a3 := .int .i64 f.letter) (a4 := .slice A f.pieces.length ka) (a5 := .int .i64 f.init) (a6 := .int .i64 f.num) (a7 := .int .i64 f.count) (a8 := .slice B f.path.length lb) b7
      have hfar := fun (q : Nat) (hq : q ≠ w1.heap.size) => nine_far (w := w2) (b := w1.heap.size) (a0 := .int .i64 f.kind) (a1 := .int .i64 f.epoch) (a2 := .int .i64 f.seq) (a3 := .int .i64 f.letter) (a4 := .slice A f.pieces.length ka) (a5 := .int .i64 f.init) (a6 := .int .i64 f.num) (a7 := .int .i64 f.count) (a8 := .slice B f.path.length lb) hq
      have hz9 := nine_size (w := w2) (b := w1.heap.size) (a0 := .int .i64 f.kind) (a1 := .int .i64 f.epoch) (a2 := .int .i64 f.seq) (a3 := .int .i64 f.letter) (a4 := .slice A f.pieces.length ka) (a5 := .int .i64 f.init) (a6 := .int .i64 f.num) (a7 := .int .i64 f.count) (a8 := .slice B f.path.length lb)
      have hbl := nine_below (b := w1.heap.size) (a0 := .int .i64 f.kind) (a1 := .int .i64 f.epoch) (a2 := .int .i64 f.seq) (a3 := .int .i64 f.letter) (a4 := .slice A f.pieces.length ka) (a5 := .int .i64 f.init) (a6 := .int .i64 f.num) (a7 := .int .i64 f.count) (a8 := .slice B f.path.length lb) hB (by have := HW7.out; have := HSZ.out; omega)
      unfold wnine at r hfar hz9 hbl
      clear b7
      refine name_wp fun W3 hW3 => ?_
      rw [hW3] at r hfar hz9 hbl
      clear hW3 hB
      have hB := hbl
      replace c2 : Box W3 w.heap.size #[.int .i64 0, .int .i64 0, .int .i64 0, .int .i64 0, .slice none 0 0, .int .i64 0, .int .i64 0, .int .i64 0, .slice none 0 0] 58 := (hfar _ (Ne.symm HNE.out)).trans c2
      have b7 : Box W3 w1.heap.size #[.int .i64 f.kind, .int .i64 f.epoch, .int .i64 f.seq, .int .i64 f.letter, .slice A f.pieces.length ka, .int .i64 f.init, .int .i64 f.num, .int .i64 f.count, .slice B f.path.length lb] 58 := r
      have hf : FrIs false W3 (w.heap.size + 1) W3.heap.size (.agg #[.int .i64 f.kind, .int .i64 f.epoch, .int .i64 f.seq, .int .i64 f.letter, .slice A f.pieces.length ka, .int .i64 f.init, .int .i64 f.num, .int .i64 f.count, .slice B f.path.length lb]) f := ⟨A, B, ka, lb, rfl, (h1.keep fun q q1 q2 => hfar q (by have := HB7.out; omega)).widen (by have := HB7.out; have := HW7.out; have := HSZ.out; omega) (Nat.le_of_eq hz9.symm), (h2.keep fun q q1 q2 => hfar q (by have := HB7.out; omega)).widen (by have := HB7.out; have := HW7.out; have := HSZ.out; omega) (Nat.le_of_eq hz9.symm)⟩
      clear h1 h2 r hfar hz9 hbl hbl7 d0 f0 d1 f1 d2 f2 d3 f3 d4 f4 d5 f5 d6 f6 d7 f7 d8 f8
      obtain ⟨d0, d1, d2, d3, d4, d5, d6, d7, d8⟩ := nine_cells b7
      have hbl7 := b7.lt
      go_wp2_with fail
      clear d0 d1 d2 d3 d4 d5 d6 d7 d8
      refine (frencode_any _ f _ (hf.widen (Nat.zero_le _) (Nat.le_refl _))).mono ?_
      obtain ⟨S, hS⟩ : ∃ S : ByteArray, (⟨(Fr.enc f).toArray⟩ : ByteArray) = S := ⟨_, rfl⟩
      obtain ⟨E, hE⟩ : ∃ E : Int, Fr.err f = E := ⟨_, rfl⟩
      rw [hS, hE]
      have HS := Lib.hid hS; have HE := Lib.hid hE; clear hS hE
      rintro z w5 ⟨rfl, hb⟩
      replace c2 := c2.next hb; replace b7 := b7.next hb; replace hB := hB.trans (hb.mono hB.size); replace hf := hf.next hb
      clear hb
      by_cases hE0 : E = 0
      ·
        subst hE0
        by_cases hSs : S = s
        ·
          subst hSs
          have hd := (Fr.enc_ok HE.out (l := S.data.toList) (by have h := HS.out; rw [← h]))
          have hd2 := Fr.dec_yes hd.1 hd.2
          have HD := Lib.hid hd2; have HF := Lib.hid hf; clear hd hd2 hf
          have sb1 : (S.toList == S.toList) = true := by simp
          have sb2 : (S.toList != S.toList) = false := by simp
          have C2 := Lib.hid c2; have BB := Lib.hid hB; clear hB
          obtain ⟨d0, d1, d2, d3, d4, d5, d6, d7, d8⟩ := nine_cells b7
          obtain ⟨g0, g1, g2, g3, g4, g5, g6, g7, g8⟩ := nine_cells c2
          obtain ⟨f0, f1, f2, f3, f4, f5, f6, f7, f8⟩ := nine_free c2
          clear c2 b7
          go_wp2_with fail
          clear d0 f0 g0 d1 f1 g1 d2 f2 g2 d3 f3 g3 d4 f4 g4 d5 f5 g5 d6 f6 g6 d7 f7 g7 d8 f8 g8
          have r := nine_box (a0 := .int .i64 f.kind) (a1 := .int .i64 f.epoch) (a2 := .int .i64 f.seq) (a3 := .int .i64 f.letter) (a4 := .slice A f.pieces.length ka) (a5 := .int .i64 f.init) (a6 := .int .i64 f.num) (a7 := .int .i64 f.count) (a8 := .slice B f.path.length lb) C2.out
          have hfar := fun (q : Nat) (hq : q ≠ w.heap.size) => nine_far (w := w5) (b := w.heap.size) (a0 := .int .i64 f.kind) (a1 := .int .i64 f.epoch) (a2 := .int .i64 f.seq) (a3 := .int .i64 f.letter) (a4 := .slice A f.pieces.length ka) (a5 := .int .i64 f.init) (a6 := .int .i64 f.num) (a7 := .int .i64 f.count) (a8 := .slice B f.path.length lb) hq
          have hz9 := nine_size (w := w5) (b := w.heap.size) (a0 := .int .i64 f.kind) (a1 := .int .i64 f.epoch) (a2 := .int .i64 f.seq) (a3 := .int .i64 f.letter) (a4 := .slice A f.pieces.length ka) (a5 := .int .i64 f.init) (a6 := .int .i64 f.num) (a7 := .int .i64 f.count) (a8 := .slice B f.path.length lb)
          have hbl := nine_below (b := w.heap.size) (a0 := .int .i64 f.kind) (a1 := .int .i64 f.epoch) (a2 := .int .i64 f.seq) (a3 := .int .i64 f.letter) (a4 := .slice A f.pieces.length ka) (a5 := .int .i64 f.init) (a6 := .int .i64 f.num) (a7 := .int .i64 f.count) (a8 := .slice B f.path.length lb) BB.out (Nat.le_refl _)
          unfold wnine at r
          obtain ⟨g0, g1, g2, g3, g4, g5, g6, g7, g8⟩ := nine_cells r
          refine bodyPost_ret (v := .tuple #[.agg #[.int .i64 f.kind, .int .i64 f.epoch, .int .i64 f.seq, .int .i64 f.letter, .slice A f.pieces.length ka, .int .i64 f.init, .int .i64 f.num, .int .i64 f.count, .slice B f.path.length lb], .int .i64 0]) (by simp [results, Try.results34, go_sem, g0, g1, g2, g3, g4, g5, g6, g7, g8]) rfl ⟨⟨.agg #[.int .i64 f.kind, .int .i64 f.epoch, .int .i64 f.seq, .int .i64 f.letter, .slice A f.pieces.length ka, .int .i64 f.init, .int .i64 f.num, .int .i64 f.count, .slice B f.path.length lb], ?_, ?_⟩, hbl⟩
          · rw [HD.out.2]
          · rw [HD.out.1]; exact ((HF.out.keep fun q h1 h2 => hfar q (by omega)).widen (Nat.zero_le _) (Nat.le_of_eq hz9.symm))
        ·
          have hd2 := Fr.dec_rd HRD.out (Fr.enc_no (f := f) (l := s.data.toList) (fun h => hSs (by have h1 := HS.out; rw [h.2] at h1; rw [← h1])))
          have HD := Lib.hid hd2; clear hd2 hf
          have sb1 : (S.toList == s.toList) = false := by
            rw [beq_eq_false_iff_ne]
            intro he
            rw [ByteArray.toList_eq, ByteArray.toList_eq] at he
            exact hSs (ByteArray.ext (Array.toList_inj.1 he))
          have sb2 : (S.toList != s.toList) = true := by simp [bne, sb1]
          clear hSs b7
          have C2 := Lib.hid c2; have BB := Lib.hid hB; clear hB
          obtain ⟨g0, g1, g2, g3, g4, g5, g6, g7, g8⟩ := nine_cells c2
          obtain ⟨f0, f1, f2, f3, f4, f5, f6, f7, f8⟩ := nine_free c2
          clear c2
          go_wp2_with fail
          clear f0 g0 f1 g1 f2 g2 f3 g3 f4 g4 f5 g5 f6 g6 f7 g7 f8 g8
          have r := nine_box (a0 := .int .i64 0) (a1 := .int .i64 0) (a2 := .int .i64 0) (a3 := .int .i64 0) (a4 := .slice none 0 0) (a5 := .int .i64 0) (a6 := .int .i64 0) (a7 := .int .i64 0) (a8 := .slice none 0 0) C2.out
          have hfar := fun (q : Nat) (hq : q ≠ w.heap.size) => nine_far (w := w5) (b := w.heap.size) (a0 := .int .i64 0) (a1 := .int .i64 0) (a2 := .int .i64 0) (a3 := .int .i64 0) (a4 := .slice none 0 0) (a5 := .int .i64 0) (a6 := .int .i64 0) (a7 := .int .i64 0) (a8 := .slice none 0 0) hq
          have hz9 := nine_size (w := w5) (b := w.heap.size) (a0 := .int .i64 0) (a1 := .int .i64 0) (a2 := .int .i64 0) (a3 := .int .i64 0) (a4 := .slice none 0 0) (a5 := .int .i64 0) (a6 := .int .i64 0) (a7 := .int .i64 0) (a8 := .slice none 0 0)
          have hbl := nine_below (b := w.heap.size) (a0 := .int .i64 0) (a1 := .int .i64 0) (a2 := .int .i64 0) (a3 := .int .i64 0) (a4 := .slice none 0 0) (a5 := .int .i64 0) (a6 := .int .i64 0) (a7 := .int .i64 0) (a8 := .slice none 0 0) BB.out (Nat.le_refl _)
          unfold wnine at r
          obtain ⟨g0, g1, g2, g3, g4, g5, g6, g7, g8⟩ := nine_cells r
          refine bodyPost_ret (v := .tuple #[.agg #[.int .i64 0, .int .i64 0, .int .i64 0, .int .i64 0, .slice none 0 0, .int .i64 0, .int .i64 0, .int .i64 0, .slice none 0 0], .int .i64 4]) (by simp [results, Try.results34, go_sem, g0, g1, g2, g3, g4, g5, g6, g7, g8]) rfl ⟨⟨.agg #[.int .i64 0, .int .i64 0, .int .i64 0, .int .i64 0, .slice none 0 0, .int .i64 0, .int .i64 0, .int .i64 0, .slice none 0 0], ?_, ?_⟩, hbl⟩
          · rw [HD.out.2]
          · rw [HD.out.1]; exact FrIs.of (f := Fr.zero) SliceIs.none_ SliceIs.none_
      ·
        have hd2 := Fr.dec_rd HRD.out (Fr.enc_no (f := f) (l := s.data.toList) (fun h => hE0 (by have h1 := HE.out; rw [h.1] at h1; exact h1.symm)))
        have HD := Lib.hid hd2; clear hd2 hf
        have hE1 : (E == 0) = false := by simpa using hE0
        have hE2 : (E != 0) = true := by simp [bne, hE1]
        clear hE0 b7
        have C2 := Lib.hid c2; have BB := Lib.hid hB; clear hB
        obtain ⟨g0, g1, g2, g3, g4, g5, g6, g7, g8⟩ := nine_cells c2
        obtain ⟨f0, f1, f2, f3, f4, f5, f6, f7, f8⟩ := nine_free c2
        clear c2
        go_wp2_with fail
        clear f0 g0 f1 g1 f2 g2 f3 g3 f4 g4 f5 g5 f6 g6 f7 g7 f8 g8
        have r := nine_box (a0 := .int .i64 0) (a1 := .int .i64 0) (a2 := .int .i64 0) (a3 := .int .i64 0) (a4 := .slice none 0 0) (a5 := .int .i64 0) (a6 := .int .i64 0) (a7 := .int .i64 0) (a8 := .slice none 0 0) C2.out
        have hfar := fun (q : Nat) (hq : q ≠ w.heap.size) => nine_far (w := w5) (b := w.heap.size) (a0 := .int .i64 0) (a1 := .int .i64 0) (a2 := .int .i64 0) (a3 := .int .i64 0) (a4 := .slice none 0 0) (a5 := .int .i64 0) (a6 := .int .i64 0) (a7 := .int .i64 0) (a8 := .slice none 0 0) hq
        have hz9 := nine_size (w := w5) (b := w.heap.size) (a0 := .int .i64 0) (a1 := .int .i64 0) (a2 := .int .i64 0) (a3 := .int .i64 0) (a4 := .slice none 0 0) (a5 := .int .i64 0) (a6 := .int .i64 0) (a7 := .int .i64 0) (a8 := .slice none 0 0)
        have hbl := nine_below (b := w.heap.size) (a0 := .int .i64 0) (a1 := .int .i64 0) (a2 := .int .i64 0) (a3 := .int .i64 0) (a4 := .slice none 0 0) (a5 := .int .i64 0) (a6 := .int .i64 0) (a7 := .int .i64 0) (a8 := .slice none 0 0) BB.out (Nat.le_refl _)
        unfold wnine at r
        obtain ⟨g0, g1, g2, g3, g4, g5, g6, g7, g8⟩ := nine_cells r
        refine bodyPost_ret (v := .tuple #[.agg #[.int .i64 0, .int .i64 0, .int .i64 0, .int .i64 0, .slice none 0 0, .int .i64 0, .int .i64 0, .int .i64 0, .slice none 0 0], .int .i64 4]) (by simp [results, Try.results34, go_sem, g0, g1, g2, g3, g4, g5, g6, g7, g8]) rfl ⟨⟨.agg #[.int .i64 0, .int .i64 0, .int .i64 0, .int .i64 0, .slice none 0 0, .int .i64 0, .int .i64 0, .int .i64 0, .slice none 0 0], ?_, ?_⟩, hbl⟩
        · rw [HD.out.2]
        · rw [HD.out.1]; exact FrIs.of (f := Fr.zero) SliceIs.none_ SliceIs.none_
    ·
      have b5 : (K == 5) = false := by simpa using h5
      have hA := fun w => all_any s w (by omega)
      cases hl : W.all s.data.toList with
      | bad k2 =>
        rw [hl] at hA
        have HA := Lib.hid hA; clear hA
        have hir : Fr.IsRd s.data.toList Fr.zero := Fr.isRd_bad hl fun F k1 k2 => by have h := HKIND.out F k1 k2; omega
        have HRD := Lib.hid hir; clear hir
        have hk := Pc.all_err _ _ _ (Nat.le_refl _) hl
        clear hl
        have hk1 : ((k2 : Int) == 0) = false := beq_eq_false_iff_ne.2 (by omega)
        go_wp2_with fail
        refine (HA.out _).mono ?_
        rintro z w2 ⟨rfl, hb⟩
        replace c2 := c2.next hb; replace b7 := b7.next hb; replace hB := hB.trans (hb.mono hB.size)
        clear hb
        go_upto_region 10 with fail
        clear hk1 b5
        have hf : FrIs false w2 (w.heap.size + 1) w2.heap.size (.agg #[.int .i64 0, .int .i64 0, .int .i64 0, .int .i64 0, .slice none 0 0, .int .i64 0, .int .i64 0, .int .i64 0, .slice none 0 0]) Fr.zero := FrIs.of (f := Fr.zero) SliceIs.none_ SliceIs.none_
        obtain ⟨d0, d1, d2, d3, d4, d5, d6, d7, d8⟩ := nine_cells b7
        have hbl7 := b7.lt
        go_wp2_with fail
        clear d0 d1 d2 d3 d4 d5 d6 d7 d8
        refine (frencode_any _ Fr.zero _ (hf.widen (Nat.zero_le _) (Nat.le_refl _))).mono ?_
        obtain ⟨S, hS⟩ : ∃ S : ByteArray, (⟨(Fr.enc Fr.zero).toArray⟩ : ByteArray) = S := ⟨_, rfl⟩
        obtain ⟨E, hE⟩ : ∃ E : Int, Fr.err Fr.zero = E := ⟨_, rfl⟩
        rw [hS, hE]
        have HS := Lib.hid hS; have HE := Lib.hid hE; clear hS hE
        rintro z w5 ⟨rfl, hb⟩
        replace c2 := c2.next hb; replace b7 := b7.next hb; replace hB := hB.trans (hb.mono hB.size); replace hf := hf.next hb
        clear hb
        by_cases hE0 : E = 0
        ·
          subst hE0
          by_cases hSs : S = s
          ·
            subst hSs
            have hd := (Fr.enc_ok HE.out (l := S.data.toList) (by have h := HS.out; rw [← h]))
            have hd2 := Fr.dec_yes hd.1 hd.2
            have HD := Lib.hid hd2; have HF := Lib.hid hf; clear hd hd2 hf
            have sb1 : (S.toList == S.toList) = true := by simp
            have sb2 : (S.toList != S.toList) = false := by simp
            have C2 := Lib.hid c2; have BB := Lib.hid hB; clear hB
            obtain ⟨d0, d1, d2, d3, d4, d5, d6, d7, d8⟩ := nine_cells b7
            obtain ⟨g0, g1, g2, g3, g4, g5, g6, g7, g8⟩ := nine_cells c2
            obtain ⟨f0, f1, f2, f3, f4, f5, f6, f7, f8⟩ := nine_free c2
            clear c2 b7
            go_wp2_with fail
            clear d0 f0 g0 d1 f1 g1 d2 f2 g2 d3 f3 g3 d4 f4 g4 d5 f5 g5 d6 f6 g6 d7 f7 g7 d8 f8 g8
            have r := nine_box (a0 := .int .i64 0) (a1 := .int .i64 0) (a2 := .int .i64 0) (a3 := .int .i64 0) (a4 := .slice none 0 0) (a5 := .int .i64 0) (a6 := .int .i64 0) (a7 := .int .i64 0) (a8 := .slice none 0 0) C2.out
            have hfar := fun (q : Nat) (hq : q ≠ w.heap.size) => nine_far (w := w5) (b := w.heap.size) (a0 := .int .i64 0) (a1 := .int .i64 0) (a2 := .int .i64 0) (a3 := .int .i64 0) (a4 := .slice none 0 0) (a5 := .int .i64 0) (a6 := .int .i64 0) (a7 := .int .i64 0) (a8 := .slice none 0 0) hq
            have hz9 := nine_size (w := w5) (b := w.heap.size) (a0 := .int .i64 0) (a1 := .int .i64 0) (a2 := .int .i64 0) (a3 := .int .i64 0) (a4 := .slice none 0 0) (a5 := .int .i64 0) (a6 := .int .i64 0) (a7 := .int .i64 0) (a8 := .slice none 0 0)
            have hbl := nine_below (b := w.heap.size) (a0 := .int .i64 0) (a1 := .int .i64 0) (a2 := .int .i64 0) (a3 := .int .i64 0) (a4 := .slice none 0 0) (a5 := .int .i64 0) (a6 := .int .i64 0) (a7 := .int .i64 0) (a8 := .slice none 0 0) BB.out (Nat.le_refl _)
            unfold wnine at r
            obtain ⟨g0, g1, g2, g3, g4, g5, g6, g7, g8⟩ := nine_cells r
            refine bodyPost_ret (v := .tuple #[.agg #[.int .i64 0, .int .i64 0, .int .i64 0, .int .i64 0, .slice none 0 0, .int .i64 0, .int .i64 0, .int .i64 0, .slice none 0 0], .int .i64 0]) (by simp [results, Try.results34, go_sem, g0, g1, g2, g3, g4, g5, g6, g7, g8]) rfl ⟨⟨.agg #[.int .i64 0, .int .i64 0, .int .i64 0, .int .i64 0, .slice none 0 0, .int .i64 0, .int .i64 0, .int .i64 0, .slice none 0 0], ?_, ?_⟩, hbl⟩
            · rw [HD.out.2]
            · rw [HD.out.1]; exact FrIs.of (f := Fr.zero) SliceIs.none_ SliceIs.none_
          ·
            have hd2 := Fr.dec_rd HRD.out (Fr.enc_no (f := Fr.zero) (l := s.data.toList) (fun h => hSs (by have h1 := HS.out; rw [h.2] at h1; rw [← h1])))
            have HD := Lib.hid hd2; clear hd2 hf
            have sb1 : (S.toList == s.toList) = false := by
              rw [beq_eq_false_iff_ne]
              intro he
              rw [ByteArray.toList_eq, ByteArray.toList_eq] at he
              exact hSs (ByteArray.ext (Array.toList_inj.1 he))
            have sb2 : (S.toList != s.toList) = true := by simp [bne, sb1]
            clear hSs b7
            have C2 := Lib.hid c2; have BB := Lib.hid hB; clear hB
            obtain ⟨g0, g1, g2, g3, g4, g5, g6, g7, g8⟩ := nine_cells c2
            obtain ⟨f0, f1, f2, f3, f4, f5, f6, f7, f8⟩ := nine_free c2
            clear c2
            go_wp2_with fail
            clear f0 g0 f1 g1 f2 g2 f3 g3 f4 g4 f5 g5 f6 g6 f7 g7 f8 g8
            have r := nine_box (a0 := .int .i64 0) (a1 := .int .i64 0) (a2 := .int .i64 0) (a3 := .int .i64 0) (a4 := .slice none 0 0) (a5 := .int .i64 0) (a6 := .int .i64 0) (a7 := .int .i64 0) (a8 := .slice none 0 0) C2.out
            have hfar := fun (q : Nat) (hq : q ≠ w.heap.size) => nine_far (w := w5) (b := w.heap.size) (a0 := .int .i64 0) (a1 := .int .i64 0) (a2 := .int .i64 0) (a3 := .int .i64 0) (a4 := .slice none 0 0) (a5 := .int .i64 0) (a6 := .int .i64 0) (a7 := .int .i64 0) (a8 := .slice none 0 0) hq
            have hz9 := nine_size (w := w5) (b := w.heap.size) (a0 := .int .i64 0) (a1 := .int .i64 0) (a2 := .int .i64 0) (a3 := .int .i64 0) (a4 := .slice none 0 0) (a5 := .int .i64 0) (a6 := .int .i64 0) (a7 := .int .i64 0) (a8 := .slice none 0 0)
            have hbl := nine_below (b := w.heap.size) (a0 := .int .i64 0) (a1 := .int .i64 0) (a2 := .int .i64 0) (a3 := .int .i64 0) (a4 := .slice none 0 0) (a5 := .int .i64 0) (a6 := .int .i64 0) (a7 := .int .i64 0) (a8 := .slice none 0 0) BB.out (Nat.le_refl _)
            unfold wnine at r
            obtain ⟨g0, g1, g2, g3, g4, g5, g6, g7, g8⟩ := nine_cells r
            refine bodyPost_ret (v := .tuple #[.agg #[.int .i64 0, .int .i64 0, .int .i64 0, .int .i64 0, .slice none 0 0, .int .i64 0, .int .i64 0, .int .i64 0, .slice none 0 0], .int .i64 4]) (by simp [results, Try.results34, go_sem, g0, g1, g2, g3, g4, g5, g6, g7, g8]) rfl ⟨⟨.agg #[.int .i64 0, .int .i64 0, .int .i64 0, .int .i64 0, .slice none 0 0, .int .i64 0, .int .i64 0, .int .i64 0, .slice none 0 0], ?_, ?_⟩, hbl⟩
            · rw [HD.out.2]
            · rw [HD.out.1]; exact FrIs.of (f := Fr.zero) SliceIs.none_ SliceIs.none_
        ·
          have hd2 := Fr.dec_rd HRD.out (Fr.enc_no (f := Fr.zero) (l := s.data.toList) (fun h => hE0 (by have h1 := HE.out; rw [h.1] at h1; exact h1.symm)))
          have HD := Lib.hid hd2; clear hd2 hf
          have hE1 : (E == 0) = false := by simpa using hE0
          have hE2 : (E != 0) = true := by simp [bne, hE1]
          clear hE0 b7
          have C2 := Lib.hid c2; have BB := Lib.hid hB; clear hB
          obtain ⟨g0, g1, g2, g3, g4, g5, g6, g7, g8⟩ := nine_cells c2
          obtain ⟨f0, f1, f2, f3, f4, f5, f6, f7, f8⟩ := nine_free c2
          clear c2
          go_wp2_with fail
          clear f0 g0 f1 g1 f2 g2 f3 g3 f4 g4 f5 g5 f6 g6 f7 g7 f8 g8
          have r := nine_box (a0 := .int .i64 0) (a1 := .int .i64 0) (a2 := .int .i64 0) (a3 := .int .i64 0) (a4 := .slice none 0 0) (a5 := .int .i64 0) (a6 := .int .i64 0) (a7 := .int .i64 0) (a8 := .slice none 0 0) C2.out
          have hfar := fun (q : Nat) (hq : q ≠ w.heap.size) => nine_far (w := w5) (b := w.heap.size) (a0 := .int .i64 0) (a1 := .int .i64 0) (a2 := .int .i64 0) (a3 := .int .i64 0) (a4 := .slice none 0 0) (a5 := .int .i64 0) (a6 := .int .i64 0) (a7 := .int .i64 0) (a8 := .slice none 0 0) hq
          have hz9 := nine_size (w := w5) (b := w.heap.size) (a0 := .int .i64 0) (a1 := .int .i64 0) (a2 := .int .i64 0) (a3 := .int .i64 0) (a4 := .slice none 0 0) (a5 := .int .i64 0) (a6 := .int .i64 0) (a7 := .int .i64 0) (a8 := .slice none 0 0)
          have hbl := nine_below (b := w.heap.size) (a0 := .int .i64 0) (a1 := .int .i64 0) (a2 := .int .i64 0) (a3 := .int .i64 0) (a4 := .slice none 0 0) (a5 := .int .i64 0) (a6 := .int .i64 0) (a7 := .int .i64 0) (a8 := .slice none 0 0) BB.out (Nat.le_refl _)
          unfold wnine at r
          obtain ⟨g0, g1, g2, g3, g4, g5, g6, g7, g8⟩ := nine_cells r
          refine bodyPost_ret (v := .tuple #[.agg #[.int .i64 0, .int .i64 0, .int .i64 0, .int .i64 0, .slice none 0 0, .int .i64 0, .int .i64 0, .int .i64 0, .slice none 0 0], .int .i64 4]) (by simp [results, Try.results34, go_sem, g0, g1, g2, g3, g4, g5, g6, g7, g8]) rfl ⟨⟨.agg #[.int .i64 0, .int .i64 0, .int .i64 0, .int .i64 0, .slice none 0 0, .int .i64 0, .int .i64 0, .int .i64 0, .slice none 0 0], ?_, ?_⟩, hbl⟩
          · rw [HD.out.2]
          · rw [HD.out.1]; exact FrIs.of (f := Fr.zero) SliceIs.none_ SliceIs.none_
      | ok ns =>
        rw [hl] at hA
        have HA := Lib.hid hA; clear hA
        have hir : Fr.IsRd s.data.toList (Fr.numF (Pc.zs ns)) := Fr.isRd_num hl fun F k1 k2 => by have h := HKIND.out F k1 k2; omega
        have hnl : ns.length ≤ 1000000 := by have := Fr.all_len _ _ _ (Nat.le_refl _) hl; simp at this; omega
        have HRD := Lib.hid hir; clear hir hl
        go_wp2_with fail
        refine (HA.out _).mono ?_
        rintro z w2 ⟨⟨v, rfl, hown⟩, hb⟩
        replace c2 := c2.next hb; replace b7 := b7.next hb; replace hB := hB.trans (hb.mono hB.size)
        have hsz2 := hb.size
        clear hb
        go_wp2_with fail
        refine (frnumbers_any W1.heap.size v ns _ hsz2 hnl hown).mono ?_
        obtain ⟨f, hfe⟩ : ∃ f, Fr.numF (Pc.zs ns) = f := ⟨_, rfl⟩
        rw [hfe] at HRD ⊢
        clear hfe hown hsz2
        rintro z w3 ⟨⟨u, rfl, hf⟩, hb⟩
        obtain ⟨A, B, ka, lb, rfl, h1, h2⟩ := hf
        replace c2 : Box w3 w.heap.size #[.int .i64 0, .int .i64 0, .int .i64 0, .int .i64 0, .slice none 0 0, .int .i64 0, .int .i64 0, .int .i64 0, .slice none 0 0] 58 := (hb.block _ (Nat.lt_of_lt_of_le HW7.out (Nat.le_trans HSZ.out (Nat.le_of_lt HB7.out)))).trans c2; replace b7 : Box w3 w1.heap.size #[.int .i64 0, .int .i64 0, .int .i64 0, .int .i64 0, .slice none 0 0, .int .i64 0, .int .i64 0, .int .i64 0, .slice none 0 0] 58 := (hb.block _ HB7.out).trans b7; replace hB := hB.trans (hb.mono (by have := HW7.out; have := HSZ.out; have := HB7.out; omega))
        clear hb b5
        obtain ⟨d0, d1, d2, d3, d4, d5, d6, d7, d8⟩ := nine_cells b7
        obtain ⟨f0, f1, f2, f3, f4, f5, f6, f7, f8⟩ := nine_free b7
        have hbl7 := b7.lt
        go_upto_region 10 with fail
        have r := nine_box (a0 := .int .i64 f.kind) (a1 := .int .i64 f.epoch) (a2 := .int .i64 f.seq) (a3 := .int .i64 f.letter) (a4 := .slice A f.pieces.length ka) (a5 := .int .i64 f.init) (a6 := .int .i64 f.num) (a7 := .int .i64 f.count) (a8 := .slice B f.path.length lb) b7
        have hfar := fun (q : Nat) (hq : q ≠ w1.heap.size) => nine_far (w := w3) (b := w1.heap.size) (a0 := .int .i64 f.kind) (a1 := .int .i64 f.epoch) (a2 := .int .i64 f.seq) (a3 := .int .i64 f.letter) (a4 := .slice A f.pieces.length ka) (a5 := .int .i64 f.init) (a6 := .int .i64 f.num) (a7 := .int .i64 f.count) (a8 := .slice B f.path.length lb) hq
        have hz9 := nine_size (w := w3) (b := w1.heap.size) (a0 := .int .i64 f.kind) (a1 := .int .i64 f.epoch) (a2 := .int .i64 f.seq) (a3 := .int .i64 f.letter) (a4 := .slice A f.pieces.length ka) (a5 := .int .i64 f.init) (a6 := .int .i64 f.num) (a7 := .int .i64 f.count) (a8 := .slice B f.path.length lb)
        have hbl := nine_below (b := w1.heap.size) (a0 := .int .i64 f.kind) (a1 := .int .i64 f.epoch) (a2 := .int .i64 f.seq) (a3 := .int .i64 f.letter) (a4 := .slice A f.pieces.length ka) (a5 := .int .i64 f.init) (a6 := .int .i64 f.num) (a7 := .int .i64 f.count) (a8 := .slice B f.path.length lb) hB (by have := HW7.out; have := HSZ.out; omega)
        unfold wnine at r hfar hz9 hbl
        clear b7
        refine name_wp fun W3 hW3 => ?_
        rw [hW3] at r hfar hz9 hbl
        clear hW3 hB
        have hB := hbl
        replace c2 : Box W3 w.heap.size #[.int .i64 0, .int .i64 0, .int .i64 0, .int .i64 0, .slice none 0 0, .int .i64 0, .int .i64 0, .int .i64 0, .slice none 0 0] 58 := (hfar _ (Ne.symm HNE.out)).trans c2
        have b7 : Box W3 w1.heap.size #[.int .i64 f.kind, .int .i64 f.epoch, .int .i64 f.seq, .int .i64 f.letter, .slice A f.pieces.length ka, .int .i64 f.init, .int .i64 f.num, .int .i64 f.count, .slice B f.path.length lb] 58 := r
        have hf : FrIs false W3 (w.heap.size + 1) W3.heap.size (.agg #[.int .i64 f.kind, .int .i64 f.epoch, .int .i64 f.seq, .int .i64 f.letter, .slice A f.pieces.length ka, .int .i64 f.init, .int .i64 f.num, .int .i64 f.count, .slice B f.path.length lb]) f := ⟨A, B, ka, lb, rfl, (h1.keep fun q q1 q2 => hfar q (by have := HB7.out; omega)).widen (by have := HB7.out; have := HW7.out; have := HSZ.out; omega) (Nat.le_of_eq hz9.symm), (h2.keep fun q q1 q2 => hfar q (by have := HB7.out; omega)).widen (by have := HB7.out; have := HW7.out; have := HSZ.out; omega) (Nat.le_of_eq hz9.symm)⟩
        clear h1 h2 r hfar hz9 hbl hbl7 d0 f0 d1 f1 d2 f2 d3 f3 d4 f4 d5 f5 d6 f6 d7 f7 d8 f8
        obtain ⟨d0, d1, d2, d3, d4, d5, d6, d7, d8⟩ := nine_cells b7
        have hbl7 := b7.lt
        go_wp2_with fail
        clear d0 d1 d2 d3 d4 d5 d6 d7 d8
        refine (frencode_any _ f _ (hf.widen (Nat.zero_le _) (Nat.le_refl _))).mono ?_
        obtain ⟨S, hS⟩ : ∃ S : ByteArray, (⟨(Fr.enc f).toArray⟩ : ByteArray) = S := ⟨_, rfl⟩
        obtain ⟨E, hE⟩ : ∃ E : Int, Fr.err f = E := ⟨_, rfl⟩
        rw [hS, hE]
        have HS := Lib.hid hS; have HE := Lib.hid hE; clear hS hE
        rintro z w5 ⟨rfl, hb⟩
        replace c2 := c2.next hb; replace b7 := b7.next hb; replace hB := hB.trans (hb.mono hB.size); replace hf := hf.next hb
        clear hb
        by_cases hE0 : E = 0
        ·
          subst hE0
          by_cases hSs : S = s
          ·
            subst hSs
            have hd := (Fr.enc_ok HE.out (l := S.data.toList) (by have h := HS.out; rw [← h]))
            have hd2 := Fr.dec_yes hd.1 hd.2
            have HD := Lib.hid hd2; have HF := Lib.hid hf; clear hd hd2 hf
            have sb1 : (S.toList == S.toList) = true := by simp
            have sb2 : (S.toList != S.toList) = false := by simp
            have C2 := Lib.hid c2; have BB := Lib.hid hB; clear hB
            obtain ⟨d0, d1, d2, d3, d4, d5, d6, d7, d8⟩ := nine_cells b7
            obtain ⟨g0, g1, g2, g3, g4, g5, g6, g7, g8⟩ := nine_cells c2
            obtain ⟨f0, f1, f2, f3, f4, f5, f6, f7, f8⟩ := nine_free c2
            clear c2 b7
            go_wp2_with fail
            clear d0 f0 g0 d1 f1 g1 d2 f2 g2 d3 f3 g3 d4 f4 g4 d5 f5 g5 d6 f6 g6 d7 f7 g7 d8 f8 g8
            have r := nine_box (a0 := .int .i64 f.kind) (a1 := .int .i64 f.epoch) (a2 := .int .i64 f.seq) (a3 := .int .i64 f.letter) (a4 := .slice A f.pieces.length ka) (a5 := .int .i64 f.init) (a6 := .int .i64 f.num) (a7 := .int .i64 f.count) (a8 := .slice B f.path.length lb) C2.out
            have hfar := fun (q : Nat) (hq : q ≠ w.heap.size) => nine_far (w := w5) (b := w.heap.size) (a0 := .int .i64 f.kind) (a1 := .int .i64 f.epoch) (a2 := .int .i64 f.seq) (a3 := .int .i64 f.letter) (a4 := .slice A f.pieces.length ka) (a5 := .int .i64 f.init) (a6 := .int .i64 f.num) (a7 := .int .i64 f.count) (a8 := .slice B f.path.length lb) hq
            have hz9 := nine_size (w := w5) (b := w.heap.size) (a0 := .int .i64 f.kind) (a1 := .int .i64 f.epoch) (a2 := .int .i64 f.seq) (a3 := .int .i64 f.letter) (a4 := .slice A f.pieces.length ka) (a5 := .int .i64 f.init) (a6 := .int .i64 f.num) (a7 := .int .i64 f.count) (a8 := .slice B f.path.length lb)
            have hbl := nine_below (b := w.heap.size) (a0 := .int .i64 f.kind) (a1 := .int .i64 f.epoch) (a2 := .int .i64 f.seq) (a3 := .int .i64 f.letter) (a4 := .slice A f.pieces.length ka) (a5 := .int .i64 f.init) (a6 := .int .i64 f.num) (a7 := .int .i64 f.count) (a8 := .slice B f.path.length lb) BB.out (Nat.le_refl _)
            unfold wnine at r
            obtain ⟨g0, g1, g2, g3, g4, g5, g6, g7, g8⟩ := nine_cells r
            refine bodyPost_ret (v := .tuple #[.agg #[.int .i64 f.kind, .int .i64 f.epoch, .int .i64 f.seq, .int .i64 f.letter, .slice A f.pieces.length ka, .int .i64 f.init, .int .i64 f.num, .int .i64 f.count, .slice B f.path.length lb], .int .i64 0]) (by simp [results, Try.results34, go_sem, g0, g1, g2, g3, g4, g5, g6, g7, g8]) rfl ⟨⟨.agg #[.int .i64 f.kind, .int .i64 f.epoch, .int .i64 f.seq, .int .i64 f.letter, .slice A f.pieces.length ka, .int .i64 f.init, .int .i64 f.num, .int .i64 f.count, .slice B f.path.length lb], ?_, ?_⟩, hbl⟩
            · rw [HD.out.2]
            · rw [HD.out.1]; exact ((HF.out.keep fun q h1 h2 => hfar q (by omega)).widen (Nat.zero_le _) (Nat.le_of_eq hz9.symm))
          ·
            have hd2 := Fr.dec_rd HRD.out (Fr.enc_no (f := f) (l := s.data.toList) (fun h => hSs (by have h1 := HS.out; rw [h.2] at h1; rw [← h1])))
            have HD := Lib.hid hd2; clear hd2 hf
            have sb1 : (S.toList == s.toList) = false := by
              rw [beq_eq_false_iff_ne]
              intro he
              rw [ByteArray.toList_eq, ByteArray.toList_eq] at he
              exact hSs (ByteArray.ext (Array.toList_inj.1 he))
            have sb2 : (S.toList != s.toList) = true := by simp [bne, sb1]
            clear hSs b7
            have C2 := Lib.hid c2; have BB := Lib.hid hB; clear hB
            obtain ⟨g0, g1, g2, g3, g4, g5, g6, g7, g8⟩ := nine_cells c2
            obtain ⟨f0, f1, f2, f3, f4, f5, f6, f7, f8⟩ := nine_free c2
            clear c2
            go_wp2_with fail
            clear f0 g0 f1 g1 f2 g2 f3 g3 f4 g4 f5 g5 f6 g6 f7 g7 f8 g8
            have r := nine_box (a0 := .int .i64 0) (a1 := .int .i64 0) (a2 := .int .i64 0) (a3 := .int .i64 0) (a4 := .slice none 0 0) (a5 := .int .i64 0) (a6 := .int .i64 0) (a7 := .int .i64 0) (a8 := .slice none 0 0) C2.out
            have hfar := fun (q : Nat) (hq : q ≠ w.heap.size) => nine_far (w := w5) (b := w.heap.size) (a0 := .int .i64 0) (a1 := .int .i64 0) (a2 := .int .i64 0) (a3 := .int .i64 0) (a4 := .slice none 0 0) (a5 := .int .i64 0) (a6 := .int .i64 0) (a7 := .int .i64 0) (a8 := .slice none 0 0) hq
            have hz9 := nine_size (w := w5) (b := w.heap.size) (a0 := .int .i64 0) (a1 := .int .i64 0) (a2 := .int .i64 0) (a3 := .int .i64 0) (a4 := .slice none 0 0) (a5 := .int .i64 0) (a6 := .int .i64 0) (a7 := .int .i64 0) (a8 := .slice none 0 0)
            have hbl := nine_below (b := w.heap.size) (a0 := .int .i64 0) (a1 := .int .i64 0) (a2 := .int .i64 0) (a3 := .int .i64 0) (a4 := .slice none 0 0) (a5 := .int .i64 0) (a6 := .int .i64 0) (a7 := .int .i64 0) (a8 := .slice none 0 0) BB.out (Nat.le_refl _)
            unfold wnine at r
            obtain ⟨g0, g1, g2, g3, g4, g5, g6, g7, g8⟩ := nine_cells r
            refine bodyPost_ret (v := .tuple #[.agg #[.int .i64 0, .int .i64 0, .int .i64 0, .int .i64 0, .slice none 0 0, .int .i64 0, .int .i64 0, .int .i64 0, .slice none 0 0], .int .i64 4]) (by simp [results, Try.results34, go_sem, g0, g1, g2, g3, g4, g5, g6, g7, g8]) rfl ⟨⟨.agg #[.int .i64 0, .int .i64 0, .int .i64 0, .int .i64 0, .slice none 0 0, .int .i64 0, .int .i64 0, .int .i64 0, .slice none 0 0], ?_, ?_⟩, hbl⟩
            · rw [HD.out.2]
            · rw [HD.out.1]; exact FrIs.of (f := Fr.zero) SliceIs.none_ SliceIs.none_
        ·
          have hd2 := Fr.dec_rd HRD.out (Fr.enc_no (f := f) (l := s.data.toList) (fun h => hE0 (by have h1 := HE.out; rw [h.1] at h1; exact h1.symm)))
          have HD := Lib.hid hd2; clear hd2 hf
          have hE1 : (E == 0) = false := by simpa using hE0
          have hE2 : (E != 0) = true := by simp [bne, hE1]
          clear hE0 b7
          have C2 := Lib.hid c2; have BB := Lib.hid hB; clear hB
          obtain ⟨g0, g1, g2, g3, g4, g5, g6, g7, g8⟩ := nine_cells c2
          obtain ⟨f0, f1, f2, f3, f4, f5, f6, f7, f8⟩ := nine_free c2
          clear c2
          go_wp2_with fail
          clear f0 g0 f1 g1 f2 g2 f3 g3 f4 g4 f5 g5 f6 g6 f7 g7 f8 g8
          have r := nine_box (a0 := .int .i64 0) (a1 := .int .i64 0) (a2 := .int .i64 0) (a3 := .int .i64 0) (a4 := .slice none 0 0) (a5 := .int .i64 0) (a6 := .int .i64 0) (a7 := .int .i64 0) (a8 := .slice none 0 0) C2.out
          have hfar := fun (q : Nat) (hq : q ≠ w.heap.size) => nine_far (w := w5) (b := w.heap.size) (a0 := .int .i64 0) (a1 := .int .i64 0) (a2 := .int .i64 0) (a3 := .int .i64 0) (a4 := .slice none 0 0) (a5 := .int .i64 0) (a6 := .int .i64 0) (a7 := .int .i64 0) (a8 := .slice none 0 0) hq
          have hz9 := nine_size (w := w5) (b := w.heap.size) (a0 := .int .i64 0) (a1 := .int .i64 0) (a2 := .int .i64 0) (a3 := .int .i64 0) (a4 := .slice none 0 0) (a5 := .int .i64 0) (a6 := .int .i64 0) (a7 := .int .i64 0) (a8 := .slice none 0 0)
          have hbl := nine_below (b := w.heap.size) (a0 := .int .i64 0) (a1 := .int .i64 0) (a2 := .int .i64 0) (a3 := .int .i64 0) (a4 := .slice none 0 0) (a5 := .int .i64 0) (a6 := .int .i64 0) (a7 := .int .i64 0) (a8 := .slice none 0 0) BB.out (Nat.le_refl _)
          unfold wnine at r
          obtain ⟨g0, g1, g2, g3, g4, g5, g6, g7, g8⟩ := nine_cells r
          refine bodyPost_ret (v := .tuple #[.agg #[.int .i64 0, .int .i64 0, .int .i64 0, .int .i64 0, .slice none 0 0, .int .i64 0, .int .i64 0, .int .i64 0, .slice none 0 0], .int .i64 4]) (by simp [results, Try.results34, go_sem, g0, g1, g2, g3, g4, g5, g6, g7, g8]) rfl ⟨⟨.agg #[.int .i64 0, .int .i64 0, .int .i64 0, .int .i64 0, .slice none 0 0, .int .i64 0, .int .i64 0, .int .i64 0, .slice none 0 0], ?_, ?_⟩, hbl⟩
          · rw [HD.out.2]
          · rw [HD.out.1]; exact FrIs.of (f := Fr.zero) SliceIs.none_ SliceIs.none_
  ·
    have hd2 : Fr.dec s.data.toList = Fr.zero ∧ Fr.decE s.data.toList = 4 := Fr.dec_no fun F k1 k2 => he (HKIND.out F k1 k2).1
    have HD := Lib.hid hd2; clear hd2
    have he1 : ((e : Int) == 0) = false := beq_eq_false_iff_ne.2 (by omega)
    have he2 : ((e : Int) != 0) = true := by simp [bne, he1]
    clear he
    have C2 := Lib.hid c2; have BB := Lib.hid hB; clear hB
    obtain ⟨g0, g1, g2, g3, g4, g5, g6, g7, g8⟩ := nine_cells c2
    obtain ⟨f0, f1, f2, f3, f4, f5, f6, f7, f8⟩ := nine_free c2
    clear c2
    go_wp2_with fail
    clear f0 g0 f1 g1 f2 g2 f3 g3 f4 g4 f5 g5 f6 g6 f7 g7 f8 g8
    have r := nine_box (a0 := .int .i64 0) (a1 := .int .i64 0) (a2 := .int .i64 0) (a3 := .int .i64 0) (a4 := .slice none 0 0) (a5 := .int .i64 0) (a6 := .int .i64 0) (a7 := .int .i64 0) (a8 := .slice none 0 0) C2.out
    have hfar := fun (q : Nat) (hq : q ≠ w.heap.size) => nine_far (w := w1) (b := w.heap.size) (a0 := .int .i64 0) (a1 := .int .i64 0) (a2 := .int .i64 0) (a3 := .int .i64 0) (a4 := .slice none 0 0) (a5 := .int .i64 0) (a6 := .int .i64 0) (a7 := .int .i64 0) (a8 := .slice none 0 0) hq
    have hz9 := nine_size (w := w1) (b := w.heap.size) (a0 := .int .i64 0) (a1 := .int .i64 0) (a2 := .int .i64 0) (a3 := .int .i64 0) (a4 := .slice none 0 0) (a5 := .int .i64 0) (a6 := .int .i64 0) (a7 := .int .i64 0) (a8 := .slice none 0 0)
    have hbl := nine_below (b := w.heap.size) (a0 := .int .i64 0) (a1 := .int .i64 0) (a2 := .int .i64 0) (a3 := .int .i64 0) (a4 := .slice none 0 0) (a5 := .int .i64 0) (a6 := .int .i64 0) (a7 := .int .i64 0) (a8 := .slice none 0 0) BB.out (Nat.le_refl _)
    unfold wnine at r
    obtain ⟨g0, g1, g2, g3, g4, g5, g6, g7, g8⟩ := nine_cells r
    refine bodyPost_ret (v := .tuple #[.agg #[.int .i64 0, .int .i64 0, .int .i64 0, .int .i64 0, .slice none 0 0, .int .i64 0, .int .i64 0, .int .i64 0, .slice none 0 0], .int .i64 4]) (by simp [results, Try.results34, go_sem, g0, g1, g2, g3, g4, g5, g6, g7, g8]) rfl ⟨⟨.agg #[.int .i64 0, .int .i64 0, .int .i64 0, .int .i64 0, .slice none 0 0, .int .i64 0, .int .i64 0, .int .i64 0, .slice none 0 0], ?_, ?_⟩, hbl⟩
    · rw [HD.out.2]
    · rw [HD.out.1]; exact FrIs.of (f := Fr.zero) SliceIs.none_ SliceIs.none_

set_option maxRecDepth 100000 in
set_option maxHeartbeats 8000000 in
theorem rfrdecode_any (s : ByteArray) (w : World) (hs : s.size ≤ 1000000) : Calls Try.prog 35 #[.string s] w
    fun y w' => (∃ u, y = .returned (.tuple #[u, .int .i64 (Fr.decE s.data.toList)]) ∧ FrIs false w' 0 w'.heap.size u (Fr.dec s.data.toList)) ∧ Below w.heap.size w w' := by
  go_enter Try.func35, Try.ntmps35
  go_upto_region 1 with fail
  refine name_wp fun W0 hW0 => ?_
  have c2 : Box W0 w.heap.size #[.int .i64 0, .int .i64 0, .int .i64 0, .int .i64 0, .slice none 0 0, .int .i64 0, .int .i64 0, .int .i64 0, .slice none 0 0] 64 := hW0 ▸ Box.at' _ _ rfl
  have hB : Below w.heap.size w W0 := hW0 ▸ (Below.refl _ _).alloc (Nat.le_refl _) _
  clear hW0
  have hw7 := c2.lt
  have HW7 := Lib.hid hw7; clear hw7
  go_wp2_with fail
  refine (rfread_any s _ hs).mono ?_
  rintro z w1 ⟨⟨u, rfl, f, hf, hrd⟩, hb⟩
  have HRD := Lib.hid hrd; clear hrd
  obtain ⟨A, B, ka, lb, rfl, h1, h2⟩ := hf
  replace c2 := c2.next hb
  replace hB := hB.trans (hb.mono hB.size)
  have hsz := hb.size
  have HSZ := Lib.hid hsz; clear hsz hb
  go_upto_region 2 with fail
  refine name_wp fun W1 hW1 => ?_
  have b7 : Box W1 w1.heap.size #[.int .i64 f.kind, .int .i64 f.epoch, .int .i64 f.seq, .int .i64 f.letter, .slice A f.pieces.length ka, .int .i64 f.init, .int .i64 f.num, .int .i64 f.count, .slice B f.path.length lb] 64 := hW1 ▸ Box.new _ _ _
  have hb1 : Below w1.heap.size w1 W1 := hW1 ▸ (Below.refl _ _).alloc (Nat.le_refl _) _
  clear hW1
  replace c2 := c2.next hb1
  replace hB := hB.trans (hb1.mono hB.size)
  have hf : FrIs false W1 (w.heap.size + 1) W1.heap.size (.agg #[.int .i64 f.kind, .int .i64 f.epoch, .int .i64 f.seq, .int .i64 f.letter, .slice A f.pieces.length ka, .int .i64 f.init, .int .i64 f.num, .int .i64 f.count, .slice B f.path.length lb]) f := ⟨A, B, ka, lb, rfl, (h1.below hb1 (Nat.le_refl _)).widen HW7.out hb1.size, (h2.below hb1 (Nat.le_refl _)).widen HW7.out hb1.size⟩
  clear h1 h2 hb1
  have hne : w1.heap.size ≠ w.heap.size := by have := HW7.out; have := HSZ.out; omega
  have HNE := Lib.hid hne; clear hne
  obtain ⟨d0, d1, d2, d3, d4, d5, d6, d7, d8⟩ := nine_cells b7
  have hbl7 := b7.lt
  go_wp2_with fail
  clear d0 d1 d2 d3 d4 d5 d6 d7 d8
  refine (rfrencode_any _ f _ (hf.widen (Nat.zero_le _) (Nat.le_refl _))).mono ?_
  obtain ⟨S, hS⟩ : ∃ S : ByteArray, (⟨(Fr.enc f).toArray⟩ : ByteArray) = S := ⟨_, rfl⟩
  obtain ⟨E, hE⟩ : ∃ E : Int, Fr.err f = E := ⟨_, rfl⟩
  rw [hS, hE]
  have HS := Lib.hid hS; have HE := Lib.hid hE; clear hS hE
  rintro z w5 ⟨rfl, hb⟩
  replace c2 := c2.next hb; replace b7 := b7.next hb; replace hB := hB.trans (hb.mono hB.size); replace hf := hf.next hb
  clear hb
  by_cases hE0 : E = 0
  ·
    subst hE0
    by_cases hSs : S = s
    ·
      subst hSs
      have hd := (Fr.enc_ok HE.out (l := S.data.toList) (by have h := HS.out; rw [← h]))
      have hd2 := Fr.dec_yes hd.1 hd.2
      have HD := Lib.hid hd2; have HF := Lib.hid hf; clear hd hd2 hf
      have sb1 : (S.toList == S.toList) = true := by simp
      have sb2 : (S.toList != S.toList) = false := by simp
      have C2 := Lib.hid c2; have BB := Lib.hid hB; clear hB
      obtain ⟨d0, d1, d2, d3, d4, d5, d6, d7, d8⟩ := nine_cells b7
      obtain ⟨g0, g1, g2, g3, g4, g5, g6, g7, g8⟩ := nine_cells c2
      obtain ⟨f0, f1, f2, f3, f4, f5, f6, f7, f8⟩ := nine_free c2
      clear c2 b7
      go_wp2_with fail
      clear d0 f0 g0 d1 f1 g1 d2 f2 g2 d3 f3 g3 d4 f4 g4 d5 f5 g5 d6 f6 g6 d7 f7 g7 d8 f8 g8
      have r := nine_box (a0 := .int .i64 f.kind) (a1 := .int .i64 f.epoch) (a2 := .int .i64 f.seq) (a3 := .int .i64 f.letter) (a4 := .slice A f.pieces.length ka) (a5 := .int .i64 f.init) (a6 := .int .i64 f.num) (a7 := .int .i64 f.count) (a8 := .slice B f.path.length lb) C2.out
      have hfar := fun (q : Nat) (hq : q ≠ w.heap.size) => nine_far (w := w5) (b := w.heap.size) (a0 := .int .i64 f.kind) (a1 := .int .i64 f.epoch) (a2 := .int .i64 f.seq) (a3 := .int .i64 f.letter) (a4 := .slice A f.pieces.length ka) (a5 := .int .i64 f.init) (a6 := .int .i64 f.num) (a7 := .int .i64 f.count) (a8 := .slice B f.path.length lb) hq
      have hz9 := nine_size (w := w5) (b := w.heap.size) (a0 := .int .i64 f.kind) (a1 := .int .i64 f.epoch) (a2 := .int .i64 f.seq) (a3 := .int .i64 f.letter) (a4 := .slice A f.pieces.length ka) (a5 := .int .i64 f.init) (a6 := .int .i64 f.num) (a7 := .int .i64 f.count) (a8 := .slice B f.path.length lb)
      have hbl := nine_below (b := w.heap.size) (a0 := .int .i64 f.kind) (a1 := .int .i64 f.epoch) (a2 := .int .i64 f.seq) (a3 := .int .i64 f.letter) (a4 := .slice A f.pieces.length ka) (a5 := .int .i64 f.init) (a6 := .int .i64 f.num) (a7 := .int .i64 f.count) (a8 := .slice B f.path.length lb) BB.out (Nat.le_refl _)
      unfold wnine at r
      obtain ⟨g0, g1, g2, g3, g4, g5, g6, g7, g8⟩ := nine_cells r
      refine bodyPost_ret (v := .tuple #[.agg #[.int .i64 f.kind, .int .i64 f.epoch, .int .i64 f.seq, .int .i64 f.letter, .slice A f.pieces.length ka, .int .i64 f.init, .int .i64 f.num, .int .i64 f.count, .slice B f.path.length lb], .int .i64 0]) (by simp [results, Try.results35, go_sem, g0, g1, g2, g3, g4, g5, g6, g7, g8]) rfl ⟨⟨.agg #[.int .i64 f.kind, .int .i64 f.epoch, .int .i64 f.seq, .int .i64 f.letter, .slice A f.pieces.length ka, .int .i64 f.init, .int .i64 f.num, .int .i64 f.count, .slice B f.path.length lb], ?_, ?_⟩, hbl⟩
      · rw [HD.out.2]
      · rw [HD.out.1]; exact ((HF.out.keep fun q h1 h2 => hfar q (by omega)).widen (Nat.zero_le _) (Nat.le_of_eq hz9.symm))
    ·
      have hd2 := Fr.dec_rd HRD.out (Fr.enc_no (f := f) (l := s.data.toList) (fun h => hSs (by have h1 := HS.out; rw [h.2] at h1; rw [← h1])))
      have HD := Lib.hid hd2; clear hd2 hf
      have sb1 : (S.toList == s.toList) = false := by
        rw [beq_eq_false_iff_ne]
        intro he
        rw [ByteArray.toList_eq, ByteArray.toList_eq] at he
        exact hSs (ByteArray.ext (Array.toList_inj.1 he))
      have sb2 : (S.toList != s.toList) = true := by simp [bne, sb1]
      clear hSs b7
      have C2 := Lib.hid c2; have BB := Lib.hid hB; clear hB
      obtain ⟨g0, g1, g2, g3, g4, g5, g6, g7, g8⟩ := nine_cells c2
      obtain ⟨f0, f1, f2, f3, f4, f5, f6, f7, f8⟩ := nine_free c2
      clear c2
      go_wp2_with fail
      clear f0 g0 f1 g1 f2 g2 f3 g3 f4 g4 f5 g5 f6 g6 f7 g7 f8 g8
      have r := nine_box (a0 := .int .i64 0) (a1 := .int .i64 0) (a2 := .int .i64 0) (a3 := .int .i64 0) (a4 := .slice none 0 0) (a5 := .int .i64 0) (a6 := .int .i64 0) (a7 := .int .i64 0) (a8 := .slice none 0 0) C2.out
      have hfar := fun (q : Nat) (hq : q ≠ w.heap.size) => nine_far (w := w5) (b := w.heap.size) (a0 := .int .i64 0) (a1 := .int .i64 0) (a2 := .int .i64 0) (a3 := .int .i64 0) (a4 := .slice none 0 0) (a5 := .int .i64 0) (a6 := .int .i64 0) (a7 := .int .i64 0) (a8 := .slice none 0 0) hq
      have hz9 := nine_size (w := w5) (b := w.heap.size) (a0 := .int .i64 0) (a1 := .int .i64 0) (a2 := .int .i64 0) (a3 := .int .i64 0) (a4 := .slice none 0 0) (a5 := .int .i64 0) (a6 := .int .i64 0) (a7 := .int .i64 0) (a8 := .slice none 0 0)
      have hbl := nine_below (b := w.heap.size) (a0 := .int .i64 0) (a1 := .int .i64 0) (a2 := .int .i64 0) (a3 := .int .i64 0) (a4 := .slice none 0 0) (a5 := .int .i64 0) (a6 := .int .i64 0) (a7 := .int .i64 0) (a8 := .slice none 0 0) BB.out (Nat.le_refl _)
      unfold wnine at r
      obtain ⟨g0, g1, g2, g3, g4, g5, g6, g7, g8⟩ := nine_cells r
      refine bodyPost_ret (v := .tuple #[.agg #[.int .i64 0, .int .i64 0, .int .i64 0, .int .i64 0, .slice none 0 0, .int .i64 0, .int .i64 0, .int .i64 0, .slice none 0 0], .int .i64 4]) (by simp [results, Try.results35, go_sem, g0, g1, g2, g3, g4, g5, g6, g7, g8]) rfl ⟨⟨.agg #[.int .i64 0, .int .i64 0, .int .i64 0, .int .i64 0, .slice none 0 0, .int .i64 0, .int .i64 0, .int .i64 0, .slice none 0 0], ?_, ?_⟩, hbl⟩
      · rw [HD.out.2]
      · rw [HD.out.1]; exact FrIs.of (f := Fr.zero) SliceIs.none_ SliceIs.none_
  ·
    have hd2 := Fr.dec_rd HRD.out (Fr.enc_no (f := f) (l := s.data.toList) (fun h => hE0 (by have h1 := HE.out; rw [h.1] at h1; exact h1.symm)))
    have HD := Lib.hid hd2; clear hd2 hf
    have hE1 : (E == 0) = false := by simpa using hE0
    have hE2 : (E != 0) = true := by simp [bne, hE1]
    clear hE0 b7
    have C2 := Lib.hid c2; have BB := Lib.hid hB; clear hB
    obtain ⟨g0, g1, g2, g3, g4, g5, g6, g7, g8⟩ := nine_cells c2
    obtain ⟨f0, f1, f2, f3, f4, f5, f6, f7, f8⟩ := nine_free c2
    clear c2
    go_wp2_with fail
    clear f0 g0 f1 g1 f2 g2 f3 g3 f4 g4 f5 g5 f6 g6 f7 g7 f8 g8
    have r := nine_box (a0 := .int .i64 0) (a1 := .int .i64 0) (a2 := .int .i64 0) (a3 := .int .i64 0) (a4 := .slice none 0 0) (a5 := .int .i64 0) (a6 := .int .i64 0) (a7 := .int .i64 0) (a8 := .slice none 0 0) C2.out
    have hfar := fun (q : Nat) (hq : q ≠ w.heap.size) => nine_far (w := w5) (b := w.heap.size) (a0 := .int .i64 0) (a1 := .int .i64 0) (a2 := .int .i64 0) (a3 := .int .i64 0) (a4 := .slice none 0 0) (a5 := .int .i64 0) (a6 := .int .i64 0) (a7 := .int .i64 0) (a8 := .slice none 0 0) hq
    have hz9 := nine_size (w := w5) (b := w.heap.size) (a0 := .int .i64 0) (a1 := .int .i64 0) (a2 := .int .i64 0) (a3 := .int .i64 0) (a4 := .slice none 0 0) (a5 := .int .i64 0) (a6 := .int .i64 0) (a7 := .int .i64 0) (a8 := .slice none 0 0)
    have hbl := nine_below (b := w.heap.size) (a0 := .int .i64 0) (a1 := .int .i64 0) (a2 := .int .i64 0) (a3 := .int .i64 0) (a4 := .slice none 0 0) (a5 := .int .i64 0) (a6 := .int .i64 0) (a7 := .int .i64 0) (a8 := .slice none 0 0) BB.out (Nat.le_refl _)
    unfold wnine at r
    obtain ⟨g0, g1, g2, g3, g4, g5, g6, g7, g8⟩ := nine_cells r
    refine bodyPost_ret (v := .tuple #[.agg #[.int .i64 0, .int .i64 0, .int .i64 0, .int .i64 0, .slice none 0 0, .int .i64 0, .int .i64 0, .int .i64 0, .slice none 0 0], .int .i64 4]) (by simp [results, Try.results35, go_sem, g0, g1, g2, g3, g4, g5, g6, g7, g8]) rfl ⟨⟨.agg #[.int .i64 0, .int .i64 0, .int .i64 0, .int .i64 0, .slice none 0 0, .int .i64 0, .int .i64 0, .int .i64 0, .slice none 0 0], ?_, ?_⟩, hbl⟩
    · rw [HD.out.2]
    · rw [HD.out.1]; exact FrIs.of (f := Fr.zero) SliceIs.none_ SliceIs.none_
end Go.Proofs.Ytdfgnmdofjhnkaa
