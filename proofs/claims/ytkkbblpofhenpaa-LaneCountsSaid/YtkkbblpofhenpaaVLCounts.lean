/- LaneCounts: the walk. -/
import Derived.Test.YtkkbblpofhenpaaS15
namespace Go.Proofs.Ytkkbblpofhenpaa.laneCounts
open Go.RowKit Go.Proofs.Ytkkbblpofhenpaa

set_option maxRecDepth 100000 in
set_option maxHeartbeats 8000000 in
theorem walk_n (v0 : Value) (a0 : La) (w : World) (h0 : LaIs false w 0 w.heap.size v0 a0) (hq : La.right (La.cut a0) = false) :
    Calls Try.prog 8 #[v0] w fun x w' => x = .returned (.bool true) ∧ Below w.heap.size w w' := by
  have HQ0 := Lib.hid hq; clear hq
  obtain ⟨a0A, a0c, rfl, _⟩ := id h0
  obtain ⟨P0, hP0⟩ : ∃ P, La.cut a0 = P := ⟨_, rfl⟩
  have hs0 : P0.Small := hP0 ▸ La.cut_small _
  have HP0 := Lib.hid hP0; have HS0 := Lib.hid hs0; clear hP0 hs0
  go_enter Try.func8, Try.ntmps8
  try simp only [List.append_eq, List.cons_append, List.nil_append]
  go_wp2_with fail
  refine name_call fun W0 hW0 => ?_
  have bx0 : Box W0 (w.heap.size) #[.bool a0.fifo, .int .i64 a0.cap, .slice a0A a0.l.length a0c] 25 := hW0 ▸ (Box.new' #[.bool a0.fifo, .int .i64 a0.cap, .slice a0A a0.l.length a0c] 25 (by simp))
  have hB : Below w.heap.size w W0 := hW0 ▸ ((Below.refl _ _).alloc (by first | (simp; done) | (simp; omega)) _)
  have hlo : w.heap.size + 1 ≤ W0.heap.size := hW0 ▸ (by simp)
  clear hW0
  refine (clacut (h0.next hB) HP0.out).mono ?_
  rintro e w1 ⟨⟨P0A, P0c, rfl, hp0⟩, hb⟩
  replace bx0 := bx0.next hb
  replace hp0 := hp0.widen hlo (Nat.le_refl _)
  replace hB := hB.trans (hb.mono hB.size)
  replace hlo := Nat.le_trans hlo hb.size
  clear hb
  obtain ⟨d0, d1, d2⟩ := three_cells bx0
  have df0 := three_free bx0 0
  have df1 := three_free bx0 1
  have df2 := three_free bx0 2
  have hl0 := bx0.lt
  go_wp2_with fail
  clear d0 d1 d2 df0 df1 df2 hl0
  refine name_call fun W hW => ?_
  have qx0 : Box W w.heap.size #[.bool P0.fifo, .int .i64 P0.cap, .slice P0A P0.l.length P0c] 25 := by rw [← hW]; exact blk_set (blk_set (blk_set bx0 0 _) 1 _) 2 _
  have qp0 : LaIs false W (w.heap.size + 1) W.heap.size (.agg #[.bool P0.fifo, .int .i64 P0.cap, .slice P0A P0.l.length P0c]) P0 := by rw [← hW]; exact (hp0.keep fun b h1 _ => three_other (by omega)).widen (Nat.le_refl _) (Nat.le_of_eq three_size.symm)
  have qB : Below w.heap.size w W := by rw [← hW]; exact ((hB.setCell (by simp) _).setCell (by simp) _).setCell (by simp) _
  have qlo : w.heap.size + 1 ≤ W.heap.size := by rw [← hW]; exact Nat.le_trans hlo (Nat.le_of_eq three_size.symm)
  clear bx0 hp0 hB hlo hW
  have bx0 := qx0; clear qx0
  have hp0 := qp0; have hB := qB; have hlo := qlo; clear qp0 qB qlo
  clear hlo
  obtain ⟨W0, rfl⟩ : ∃ x : World, x = W := ⟨_, rfl⟩
  replace hp0 := hp0.zero_
  have HQ := Lib.hid (HP0.out ▸ HQ0.out)
  refine (claref hp0 HS0.out).mono ?_
  rintro e w1 ⟨⟨RA, Rc, rfl, hr⟩, hb⟩
  replace bx0 := bx0.next hb
  replace hp0 := hp0.next hb
  replace hB := hB.trans (hb.mono hB.size)
  clear hb
  go_wp2_with fail
  refine (craright hr HQ.out).mono ?_
  rintro e w2 ⟨rfl, hb⟩
  replace bx0 := bx0.next hb
  replace hp0 := hp0.next hb
  replace hr := hr.next hb
  replace hB := hB.trans (hb.mono hB.size)
  clear hb
  clear hr
  obtain ⟨d0, d1, d2⟩ := three_cells bx0
  have hl0 := bx0.lt
  go_wp2_with fail
  clear d0 d1 d2
  clear hl0
  refine (claright hp0 HS0.out.len HQ.out).mono ?_
  rintro e w3 ⟨rfl, hb⟩
  replace bx0 := bx0.next hb
  replace hp0 := hp0.next hb
  replace hB := hB.trans (hb.mono hB.size)
  clear hb
  go_wp2_with fail
  refine (fixed8_any _).mono ?_
  rintro e w4 ⟨rfl, hb⟩
  replace bx0 := bx0.next hb
  replace hp0 := hp0.next hb
  replace hB := hB.trans (hb.mono hB.size)
  clear hb
  go_wp2_with fail
  go_ret
  exact ⟨rfl, hB⟩

set_option maxRecDepth 100000 in
set_option maxHeartbeats 8000000 in
theorem walk_y (v0 : Value) (a0 : La) (w : World) (h0 : LaIs false w 0 w.heap.size v0 a0) (hq : La.right (La.cut a0) = true) :
    Calls Try.prog 8 #[v0] w fun x w' => x = .returned (.bool true) ∧ Below w.heap.size w w' := by
  have HQ0 := Lib.hid hq; clear hq
  obtain ⟨a0A, a0c, rfl, _⟩ := id h0
  obtain ⟨P0, hP0⟩ : ∃ P, La.cut a0 = P := ⟨_, rfl⟩
  have hs0 : P0.Small := hP0 ▸ La.cut_small _
  have HP0 := Lib.hid hP0; have HS0 := Lib.hid hs0; clear hP0 hs0
  go_enter Try.func8, Try.ntmps8
  try simp only [List.append_eq, List.cons_append, List.nil_append]
  go_wp2_with fail
  refine name_call fun W0 hW0 => ?_
  have bx0 : Box W0 (w.heap.size) #[.bool a0.fifo, .int .i64 a0.cap, .slice a0A a0.l.length a0c] 25 := hW0 ▸ (Box.new' #[.bool a0.fifo, .int .i64 a0.cap, .slice a0A a0.l.length a0c] 25 (by simp))
  have hB : Below w.heap.size w W0 := hW0 ▸ ((Below.refl _ _).alloc (by first | (simp; done) | (simp; omega)) _)
  have hlo : w.heap.size + 1 ≤ W0.heap.size := hW0 ▸ (by simp)
  clear hW0
  refine (clacut (h0.next hB) HP0.out).mono ?_
  rintro e w1 ⟨⟨P0A, P0c, rfl, hp0⟩, hb⟩
  replace bx0 := bx0.next hb
  replace hp0 := hp0.widen hlo (Nat.le_refl _)
  replace hB := hB.trans (hb.mono hB.size)
  replace hlo := Nat.le_trans hlo hb.size
  clear hb
  obtain ⟨d0, d1, d2⟩ := three_cells bx0
  have df0 := three_free bx0 0
  have df1 := three_free bx0 1
  have df2 := three_free bx0 2
  have hl0 := bx0.lt
  go_wp2_with fail
  clear d0 d1 d2 df0 df1 df2 hl0
  refine name_call fun W hW => ?_
  have qx0 : Box W w.heap.size #[.bool P0.fifo, .int .i64 P0.cap, .slice P0A P0.l.length P0c] 25 := by rw [← hW]; exact blk_set (blk_set (blk_set bx0 0 _) 1 _) 2 _
  have qp0 : LaIs false W (w.heap.size + 1) W.heap.size (.agg #[.bool P0.fifo, .int .i64 P0.cap, .slice P0A P0.l.length P0c]) P0 := by rw [← hW]; exact (hp0.keep fun b h1 _ => three_other (by omega)).widen (Nat.le_refl _) (Nat.le_of_eq three_size.symm)
  have qB : Below w.heap.size w W := by rw [← hW]; exact ((hB.setCell (by simp) _).setCell (by simp) _).setCell (by simp) _
  have qlo : w.heap.size + 1 ≤ W.heap.size := by rw [← hW]; exact Nat.le_trans hlo (Nat.le_of_eq three_size.symm)
  clear bx0 hp0 hB hlo hW
  have bx0 := qx0; clear qx0
  have hp0 := qp0; have hB := qB; have hlo := qlo; clear qp0 qB qlo
  clear hlo
  obtain ⟨W0, rfl⟩ : ∃ x : World, x = W := ⟨_, rfl⟩
  replace hp0 := hp0.zero_
  have HQ := Lib.hid (HP0.out ▸ HQ0.out)
  refine (claref hp0 HS0.out).mono ?_
  rintro e w1 ⟨⟨RA, Rc, rfl, hr⟩, hb⟩
  replace bx0 := bx0.next hb
  replace hp0 := hp0.next hb
  replace hB := hB.trans (hb.mono hB.size)
  clear hb
  go_wp2_with fail
  refine (craright hr HQ.out).mono ?_
  rintro e w2 ⟨rfl, hb⟩
  replace bx0 := bx0.next hb
  replace hp0 := hp0.next hb
  replace hr := hr.next hb
  replace hB := hB.trans (hb.mono hB.size)
  clear hb
  clear hr
  obtain ⟨hkd, hcap, hlen⟩ := La.right_parts HQ.out
  have HKD := Lib.hid hkd; have HCAP := Lib.hid hcap; clear hkd hcap
  obtain ⟨w2, rfl⟩ : ∃ x : World, x = w2 := ⟨_, rfl⟩
  have HBB := Lib.hid hB; have HBX := Lib.hid bx0; have HPP := Lib.hid hp0; clear hB bx0 hp0
  have hc7 := La.sumK_all HKD.out
  have HC7 := Lib.hid hc7; clear hc7
  go_wp2_with fail
  go_loopg [3, 4] 7 (fun m s k wr => ∃ j : Nat, s = .int .i64 ((La.sumK P0.l j : Nat) : Int) ∧ k = .int .i64 (j : Int) ∧ j ≤ 7 ∧ m = 7 - j ∧ Below w2.heap.size w2 wr)
  case atStart => exact ⟨0, rfl, rfl, by omega, by omega, Below.refl _ _⟩
  case round =>
    obtain ⟨j, rfl, rfl, hj, hm, hV⟩ := hrel
    have HM := Lib.hid hm; clear hm
    have bx0 := HBX.out.next hV; have hp0 := HPP.out.next hV
    have hsb := La.sumK_le P0.l j
    have hs1 : La.sumK P0.l j ≤ 175 := Nat.le_trans hsb (Nat.le_trans (Nat.mul_le_mul hj hlen) (by omega))
    clear hsb
    obtain ⟨s, hs⟩ : ∃ s, La.sumK P0.l j = s := ⟨_, rfl⟩
    rw [hs] at hs1 ⊢
    have HS := Lib.hid hs; clear hs
    by_cases hlt : j < 7
    ·
      have hcl := La.cnt_le (j : Int) P0.l
      obtain ⟨c, hc⟩ : ∃ c, La.cnt (j : Int) P0.l = c := ⟨_, rfl⟩
      rw [hc] at hcl
      have HC := Lib.hid hc; clear hc
      have hw : wrap64 ((s : Int) + (c : Int)) = (s : Int) + (c : Int) := by unfold wrap64; omega
      have hlt7 : (j : Int) < 7 := by omega
      obtain ⟨d0, d1, d2⟩ := three_cells bx0
      have hl0 := bx0.lt
      go_wp2_with fail
      clear d0 d1 d2
      clear hl0
      refine (clacount hp0 (WalkArith.wf_i64 (by omega)) HKD.out HS0.out.len HC.out).mono ?_
      rintro e w3 ⟨rfl, hb⟩
      have HV := Lib.hid (hV.trans (hb.mono hV.size)); clear hV hb
      go_wp2_with fail
      go_roundg (7 - (j + 1))
      case rel => exact ⟨j + 1, by rw [La.sumK, HS.out, HC.out]; simp, by simp, by omega, rfl, HV.out⟩
      case measure => have := HM.out; omega
    ·
      have hj7 : j = 7 := by omega
      subst hj7
      have hs7 : s = P0.l.length := HS.out ▸ HC7.out
      subst hs7
      have hB := HBB.out.trans (hV.mono HBB.out.size)
      clear hV hs1
      obtain ⟨W3, rfl⟩ : ∃ x : World, x = wr := ⟨_, rfl⟩
      clear HBB HBX HPP HM HS
      obtain ⟨d0, d1, d2⟩ := three_cells bx0
      have hl0 := bx0.lt
      go_wp2_with fail
      clear d0 d1 d2
      clear hl0
      obtain ⟨n, hn⟩ : ∃ n, La.cnt 0 P0.l = n := ⟨_, rfl⟩
      have hnl := La.cnt_le 0 P0.l
      rw [hn] at hnl
      have HN := Lib.hid hn; clear hn
      have HXN := Lib.hid (show (La.msgs P0).length = n from (La.msgs_cnt P0.l).trans HN.out)
      refine (clamsgs (xs := La.msgs P0) hp0 HS0.out.len rfl).mono ?_
      rintro e w4 ⟨⟨MA, mc, rfl, hm⟩, hb⟩
      replace bx0 := bx0.next hb
      replace hp0 := hp0.next hb
      replace hB := hB.trans (hb.mono hB.size)
      clear hb
      rw [HXN.out] at hm ⊢
      have HBB := Lib.hid hB; have HBX := Lib.hid bx0; have HPP := Lib.hid hp0; have HMM := Lib.hid hm; clear hB bx0 hp0 hm
      go_wp2_with fail
      go_loopg [6, 7] P0.l.length (fun m at_ i wr => ∃ j : Nat, at_ = .int .i64 ((La.cnt 0 (P0.l.take j) : Nat) : Int) ∧ i = .int .i64 (j : Int) ∧ j ≤ P0.l.length ∧ m = P0.l.length - j ∧ Quiet w4 wr)
      case atStart => exact ⟨0, by simp [La.cnt], rfl, by omega, by omega, Quiet.refl _⟩
      case round =>
        obtain ⟨j, rfl, rfl, hj, hk, hQ⟩ := hrel
        have HK := Lib.hid hk; clear hk
        have bx0 : Box wr w.heap.size #[.bool P0.fifo, .int .i64 P0.cap, .slice P0A P0.l.length P0c] 25 := (by rw [Box, hQ.heap]; exact HBX.out)
        have hcl := La.cnt_le 0 (P0.l.take j)
        rw [List.length_take] at hcl
        obtain ⟨t, ht⟩ : ∃ t, La.cnt 0 (P0.l.take j) = t := ⟨_, rfl⟩
        rw [ht] at hcl ⊢
        have HT := Lib.hid ht; clear ht
        obtain ⟨d0, d1, d2⟩ := three_cells bx0
        have hl0 := bx0.lt
        by_cases hlt : j < P0.l.length
        ·
          obtain ⟨x, hx⟩ := Pc.get_at hlt
          have hs0 : SliceIs Rep.frame false wr 0 wr.heap.size (.slice P0A P0.l.length P0c) P0.l := (HPP.out.slice_).keep (fun b _ _ => by rw [hQ.heap]) |>.widen (Nat.le_refl _) (by rw [hQ.heap]; exact Nat.le_refl _)
          obtain ⟨g, o, cA, cB, ck, cl, hga, _, hg, hc, _⟩ := hs0.at'.frame hx
          clear hs0
          have c0 := hc 0 _ rfl
          have c2 := hc 2 _ rfl
          have c3 := hc 3 _ rfl
          simp only [Nat.add_zero] at c0
          clear hc
          have HX := Lib.hid hx; clear hx
          by_cases hk0 : x.kind = 0
          ·
            have HK0 := Lib.hid hk0; have hkb : (x.kind != 0) = false := by simp [hk0]
            have HLT := Lib.hid (La.cnt_lt HX.out HK0.out)
            have htn : t < n := by have := HLT.out; rw [HT.out, HN.out] at this; exact this
            have hmx : (La.msgs P0)[t]? = some (x.seq, x.letter) := HT.out ▸ La.msgs_at HX.out HK0.out
            obtain ⟨g2, o2, hma, _, hg2, m0, m1⟩ := ((HMM.out.arr.keep (fun b _ _ => by rw [hQ.heap]) : SliceAt Rep.msg false wr 0 _ MA (La.msgs P0))).msg hmx
            dsimp only at m0 m1
            subst hma
            have hq1 : decide ((t : Int) ≥ (n : Int)) = false := decide_eq_false (by omega)
            have hq2 : decide ((n : Int) ≤ (t : Int)) = false := decide_eq_false (by omega)
            have hq3 : ¬ ((t : Int) ≥ (n : Int)) := by omega
            have s1 : (x.seq == x.seq) = true := by simp
            have s2 : (x.letter == x.letter) = true := by simp
            clear hmx hk0
            subst hga
            go_wp2_with fail
            go_quiet (fail)
            go_wp2_with fail
            go_roundg (P0.l.length - (j + 1))
            case rel => exact ⟨j + 1, by rw [La.cnt_yes HX.out HK0.out, HT.out]; simp, by simp, by omega, rfl, hQ.drewN _⟩
            case measure => have := HK.out; omega
          ·
            have HK0 := Lib.hid hk0; have hkb : (x.kind != 0) = true := by simp [hk0]
            clear hk0
            subst hga
            go_wp2_with fail
            go_roundg (P0.l.length - (j + 1))
            case rel => exact ⟨j + 1, by rw [La.cnt_no HX.out HK0.out, HT.out], by simp, by omega, rfl, hQ⟩
            case measure => have := HK.out; omega
        ·
          have hjl : j = P0.l.length := by omega
          have htn : t = n := by have h := HT.out; rw [hjl, List.take_of_length_le (Nat.le_refl _), HN.out] at h; exact h.symm
          subst htn
          clear hcl hjl hj HT HK
          have hV : Below w4.heap.size w4 wr := hQ.below
          have hB := HBB.out.trans (hV.mono HBB.out.size); have hp0 := HPP.out.next hV
          clear hQ hV HBB HBX HPP HMM
          obtain ⟨W5, rfl⟩ : ∃ x : World, x = wr := ⟨_, rfl⟩
          have hcp := HCAP.out
          have hw1 : wrap64 (P0.cap - (t : Int)) = P0.cap - (t : Int) := by unfold wrap64; omega
          have hw2 : wrap64 (P0.cap - (t : Int) + 1) = P0.cap - (t : Int) + 1 := by unfold wrap64; omega
          have z1 : ((t : Int) == (t : Int)) = true := by simp
          have z2 : ((P0.l.length : Int) == (P0.l.length : Int)) = true := by simp
          go_wp2_with fail
          clear d0 d1 d2
          clear hl0
          refine (claapps hp0 HKD.out HS0.out.len HN.out).mono ?_
          rintro e w5 ⟨rfl, hb⟩
          replace bx0 := bx0.next hb
          replace hp0 := hp0.next hb
          replace hB := hB.trans (hb.mono hB.size)
          clear hb
          obtain ⟨d0, d1, d2⟩ := three_cells bx0
          have hl0 := bx0.lt
          go_wp2_with fail
          clear d0 d1 d2
          clear hl0
          refine (clacount (n := 0) hp0 (by decide) HKD.out HS0.out.len (La.cnt_none HKD.out (.inr (by decide)))).mono ?_
          rintro e w6 ⟨rfl, hb⟩
          replace bx0 := bx0.next hb
          replace hp0 := hp0.next hb
          replace hB := hB.trans (hb.mono hB.size)
          clear hb
          obtain ⟨d0, d1, d2⟩ := three_cells bx0
          have hl0 := bx0.lt
          go_wp2_with fail
          clear d0 d1 d2
          clear hl0
          refine (clacount (n := 0) hp0 (by decide) HKD.out HS0.out.len (La.cnt_none HKD.out (.inl (by decide)))).mono ?_
          rintro e w7 ⟨rfl, hb⟩
          replace bx0 := bx0.next hb
          replace hp0 := hp0.next hb
          replace hB := hB.trans (hb.mono hB.size)
          clear hb
          obtain ⟨d0, d1, d2⟩ := three_cells bx0
          have hl0 := bx0.lt
          go_wp2_with fail
          clear d0 d1 d2
          clear hl0
          refine (clafits (q := true) hp0 HCAP.out HKD.out HS0.out.len (La.fits_all HN.out)).mono ?_
          rintro e w8 ⟨rfl, hb⟩
          replace bx0 := bx0.next hb
          replace hp0 := hp0.next hb
          replace hB := hB.trans (hb.mono hB.size)
          clear hb
          obtain ⟨d0, d1, d2⟩ := three_cells bx0
          have hl0 := bx0.lt
          go_wp2_with fail
          clear d0 d1 d2
          clear hl0
          refine (clafits (q := false) hp0 HCAP.out HKD.out HS0.out.len (La.fits_more HN.out HQ.out)).mono ?_
          rintro e w9 ⟨rfl, hb⟩
          replace bx0 := bx0.next hb
          replace hp0 := hp0.next hb
          replace hB := hB.trans (hb.mono hB.size)
          clear hb
          obtain ⟨d0, d1, d2⟩ := three_cells bx0
          have hl0 := bx0.lt
          go_wp2_with fail
          clear d0 d1 d2
          clear hl0
          refine (fixed8_any _).mono ?_
          rintro e w10 ⟨rfl, hb⟩
          replace bx0 := bx0.next hb
          replace hp0 := hp0.next hb
          replace hB := hB.trans (hb.mono hB.size)
          clear hb
          go_wp2_with fail
          go_ret
          exact ⟨rfl, hB⟩

theorem walk (v0 : Value) (a0 : La) (w : World) (h0 : LaIs false w 0 w.heap.size v0 a0) :
    Calls Try.prog 8 #[v0] w fun x w' => x = .returned (.bool true) ∧ Below w.heap.size w w' := by
  cases hq : La.right (La.cut a0) with
  | false => exact walk_n v0 a0 w h0 hq
  | true => exact walk_y v0 a0 w h0 hq
end Go.Proofs.Ytkkbblpofhenpaa.laneCounts
