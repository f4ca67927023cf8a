/- HueMore: the walk. -/
import Derived.Test.YtmbilaepeekglaaHRow
namespace Go.Proofs.Ytmbilaepeekglaa.hueMore
open Go.RowKit Go.Maps Go.Proofs.Ytmbilaepeekglaa

set_option maxRecDepth 100000 in
set_option maxHeartbeats 8000000 in
theorem walk (v1 : Value) (xs1 : List Int) (v2 : Value) (xs2 : List Bool) (a3 : Int) (w2 : (Lit.int .u8 a3).wf = true) (w : World) (h1 : SliceIs Rep.int false w 0 w.heap.size v1 xs1) (h2 : SliceIs Rep.bool false w 0 w.heap.size v2 xs2) :
    Calls Try.prog 6 #[v1, v2, .int .u8 a3] w fun x w' => x = .returned (.bool true) ∧ Below w.heap.size w w' := by
  have ha2 := u8_bounds w2
  obtain ⟨A1, c1, rfl, n1, m1, _⟩ := id h1
  obtain ⟨out, hcut1⟩ : ∃ ys, ys = xs1.take 40 := ⟨_, rfl⟩
  have hcl1 : (min (xs1.length : Int) 40).toNat = out.length := by rw [hcut1]; simp; omega
  have l1 : out.length ≤ 40 := by rw [hcut1]; simp; omega
  have hm1 : (0 : Int) ≤ min (xs1.length : Int) 40 := by omega
  have hk1 : min (xs1.length : Int) 40 ≤ (c1 : Int) := by omega
  have q1 : SliceIs Rep.int false w 0 w.heap.size (.slice A1 out.length c1) out := hcut1 ▸ SliceIs.cut h1 40
  have e1 : out.length ≤ c1 := by omega
  clear hcut1 h1
  have hA1 := q1.at_
  have HA1 := Lib.hid hA1; clear hA1
  obtain ⟨A2, c2, rfl, n2, m2, hA2⟩ := h2
  have HA2 := Lib.hid hA2; clear hA2
  go_enter Try.func6, Try.ntmps6
  try simp only [List.append_eq, List.cons_append, List.nil_append]
  go_wp2_with fail
  refine name_wp fun W0 hW0 => ?_
  have hin : Row Rep.msg 54 w.heap.size W0 (some w.heap.size) (.slice (some ⟨w.heap.size, 0, none⟩) 0 0) [] := hW0 ▸ (Row.empty Rep.msg 54 w)
  have hB : Below w.heap.size w W0 := hW0 ▸ (Below.refl _ _).alloc (Nat.le_refl _) _
  clear hW0
  go_loopg [7, 8] out.length (fun k u iv wr => ∃ (j : Nat) (b : Option Nat), iv = .int .i64 (j : Int) ∧ j ≤ out.length ∧ k = out.length - j ∧ Row Rep.msg 54 w.heap.size wr b u (((Hu.numb 0 out).take j).filter (Hu.gotP xs2)) ∧ Below w.heap.size w wr)
  case atStart => exact ⟨0, _, rfl, by omega, by omega, hin, hB⟩
  case round =>
    clear hin hB
    obtain ⟨i, b, rfl, hj, hk, hin, hB⟩ := hrel
    have HK := Lib.hid hk; clear hk
    by_cases hlt : i < out.length
    ·
      by_cases hg : i < xs2.length
      ·
        obtain ⟨x, hx⟩ := Pc.get_at hlt
        obtain ⟨g, o, rfl, _, hgl, c0⟩ := (HA1.out.below hB (Nat.le_refl _)).int hx
        have hst := Hu.want_step (Hu.gotP xs2) hx
        rw [Hu.gotP_at] at hst
        have hnl : (((Hu.numb 0 out).take i).filter (Hu.gotP xs2)).length ≤ 1000000 := Nat.le_trans (Hu.want_len _ _ _) (by omega)
        clear hx
        obtain ⟨bv, hbv⟩ := Pc.get_at hg
        obtain ⟨g2, o2, rfl, _, hgl2, c1⟩ := (HA2.out.below hB (Nat.le_refl _)).bool hbv
        have hgd : xs2.getD i false = bv := by simp [List.getD, hbv]
        rw [hgd] at hst
        clear hgd hbv
        cases bv
        ·
          rw [if_neg (by simp), List.append_nil] at hst
          rw [← hst] at hin
          clear hst
          go_wp2_with fail
          go_roundg (out.length - (i + 1))
          case rel => exact ⟨i + 1, b, by simp, by omega, rfl, hin, hB⟩
          case measure => have := HK.out; omega
        ·
          rw [if_pos rfl] at hst
          have HS := Lib.hid hst; clear hst
          go_wp2_with (at_builtin; refine wpList_rowB (r := Rep.msg) flat_msg (y := ((i : Int) + 1, x)) rfl (.tmp 37) (.tmp 45) 24 rfl w.heap.size 54 Try.infoMsg Try.underlying24 rfl (by omega) _ rfl hin hB.size 1 _ [.int .i64 ((i : Int) + 1), .int .i64 x] rfl rfl rfl hnl ?_; intro v2 w2 b2 hnew hg2 hb3 ha2)
          rw [← HS.out] at hnew
          go_roundg (out.length - (i + 1))
          case rel => exact ⟨i + 1, b2, by simp, by omega, rfl, hnew, hB.trans hb3⟩
          case measure => have := HK.out; omega
      ·
        rw [Hu.got_end (by omega)] at hin
        obtain ⟨I, hI⟩ : ∃ I, ((Hu.numb 0 out).filter (Hu.gotP xs2)) = I := ⟨_, rfl⟩
        rw [hI] at hin
        have hpm : I.Perm ((Hu.numb 0 out).filter (Hu.gotP xs2)) := hI ▸ List.Perm.refl _
        have hbp := Hu.both_perm out hpm
        obtain ⟨RR, hRR⟩ : ∃ R, Hu.rest out I = R := ⟨_, rfl⟩
        rw [hRR] at hbp
        have hlen : (I ++ RR).length = out.length := hbp.length_eq.trans (Hu.numb_length _ _)
        rw [List.length_append] at hlen
        have hwf2 : ∀ m ∈ I ++ RR, Wf m.1 := fun m hm => numb_wf (by omega) m (hbp.mem_iff.1 hm)
        have hwf1 : ∀ m ∈ I, Wf m.1 := fun m hm => hwf2 m (List.mem_append_left _ hm)
        have hwfr : ∀ m ∈ RR, Wf m.1 := fun m hm => hwf2 m (List.mem_append_right _ hm)
        have hod : (out.length : Int) < ((out.length : Int) + 1 + a3, (0 : Int)).1 := by show (out.length : Int) < (out.length : Int) + 1 + a3; omega
        have hm1 := Hu.mixed_odd (l := I) hod
        have hr1 := Hu.rest_odd (l := I) hod
        rw [hRR] at hr1
        have hwfo : ∀ m ∈ I ++ [((out.length : Int) + 1 + a3, (0 : Int))], Wf m.1 := fun m hm => by rcases List.mem_append.1 hm with h | h; exact hwf1 m h; simp at h; subst h; exact wf_of (by show _ ≤ (out.length : Int) + 1 + a3; omega) (by show (out.length : Int) + 1 + a3 ≤ _; omega)
        have hlo : (I ++ [((out.length : Int) + 1 + a3, (0 : Int))]).length ≤ 1000000 := by simp; omega
        have HPM := Lib.hid hpm; have HRR := Lib.hid hRR; have HM1 := Lib.hid hm1; have HR1 := Lib.hid hr1; clear hpm hRR hm1 hr1 hbp hI hod hcl1
        have q1 := (q1.below hB (Nat.le_refl _)).widen (Nat.le_refl _) hB.size
        obtain ⟨A7, k7, hu7, _, _⟩ := hin.form
        subst hu7
        have hi := hin.got; clear hin
        go_wp2_with fail
        refine (restq q1 hi (by omega) (by omega) hwf1 HRR.out).mono ?_
        rintro e w3 ⟨⟨R3, r3, rfl, hc3, hr⟩, hb⟩
        replace hi := hi.next hb
        replace q1 := q1.next hb
        replace hB := hB.trans (hb.mono hB.size)
        clear hb
        replace hr := (hr.widen (Nat.zero_le _) (Nat.le_refl _)).soft
        have hal := ((Below.refl w3.heap.size w3).alloc (Nat.le_refl _) (.cells #[] 54))
        have hgot0 := (hi).next hal
        go_upto_region 10 with (at_builtin; refine wpList_rowS (r := Rep.msg) flat_msg rfl (.tmp 50) (.tmp 51) 24 rfl w3.heap.size 54 Try.infoMsg Try.underlying24 rfl (by omega) _ _ rfl (Row.empty Rep.msg 54 w3) (by simp) rfl hgot0 (by simp only [List.length_nil]; omega) ?_; intro v4 w4a b4a row4 hgr hb0 hap0)
        have hb := hal.trans hb0
        rw [List.nil_append] at row4
        clear hgr hb0 hap0 hal hgot0
        obtain ⟨A4, k4, rfl, hk4a, hk4b⟩ := row4.form
        go_upto_region 11 with (at_builtin; refine wpList_rowB (r := Rep.msg) flat_msg (y := ((out.length : Int) + 1 + a3, 0)) rfl (.tmp 53) (.tmp 61) 24 rfl w3.heap.size 54 Try.infoMsg Try.underlying24 rfl (by omega) _ rfl row4 hb.size 1 _ [.int .i64 ((out.length : Int) + 1 + a3), .int .i64 0] rfl rfl rfl (by omega) ?_; intro v4 w4 b4 nrow4 hgr hb0 hap0)
        replace hb := hb.trans hb0
        clear hgr hb0 hap0 row4
        replace hi := hi.next hb
        replace q1 := q1.next hb
        replace hr := hr.next hb
        replace hB := hB.trans (hb.mono hB.size)
        clear hb
        have r4 := nrow4.got
        go_wp2_with fail
        refine (mixedq q1 r4 (by omega) hlo hwfo HM1.out).mono ?_
        rintro e w5 ⟨rfl, hb⟩
        replace hi := hi.next hb
        replace q1 := q1.next hb
        replace hr := hr.next hb
        replace r4 := r4.next hb
        replace hB := hB.trans (hb.mono hB.size)
        clear hb
        go_wp2_with fail
        refine (restq q1 r4 (by omega) hlo hwfo HR1.out).mono ?_
        rintro e w6 ⟨⟨R5, r5, rfl, _, z5⟩, hb⟩
        replace hi := hi.next hb
        replace q1 := q1.next hb
        replace hr := hr.next hb
        replace r4 := r4.next hb
        replace hB := hB.trans (hb.mono hB.size)
        clear hb
        replace z5 := (z5.widen (Nat.zero_le _) (Nat.le_refl _)).soft
        go_wp2_with fail
        refine (msgsq (b := true) z5 hr (by simp)).mono ?_
        rintro e w7 ⟨rfl, hb⟩
        replace hi := hi.next hb
        replace q1 := q1.next hb
        replace hr := hr.next hb
        replace r4 := r4.next hb
        replace hB := hB.trans (hb.mono hB.size)
        clear hb
        clear z5 r4 nrow4
        by_cases hz : RR.length = 0
        ·
          obtain rfl : RR = [] := List.eq_nil_of_length_eq_zero hz
          have hil : I.length = out.length := Hu.rest_none HPM.out HRR.out
          go_wp2_with fail
          refine (fixed11_any _).mono ?_
          rintro e w8 ⟨rfl, hb⟩
          replace hi := hi.next hb
          replace q1 := q1.next hb
          replace hr := hr.next hb
          replace hB := hB.trans (hb.mono hB.size)
          clear hb
          go_wp2_with fail
          go_ret
          exact ⟨rfl, hB⟩
        ·
          obtain ⟨k, hkm⟩ : ∃ k : Nat, a3.tmod (RR.length : Int) = (k : Int) := ⟨(a3.tmod (RR.length : Int)).toNat, (Int.toNat_of_nonneg (Int.tmod_nonneg _ ha2.1)).symm⟩
          have hkl : k < RR.length := by have := Int.tmod_lt_of_pos a3 (show (0 : Int) < (RR.length : Int) by omega); omega
          obtain ⟨⟨m1, m2⟩, hm⟩ := Pc.get_at hkl
          have hkr : (Hu.rest out I)[k]? = some (m1, m2) := by rw [HRR.out]; exact hm
          obtain ⟨hrest, hmx⟩ := Hu.more_rest HPM.out hkr
          rw [HRR.out] at hrest
          obtain ⟨QQ, hQQ⟩ : ∃ q, Hu.rest out (I ++ [(m1, m2)]) = q := ⟨_, rfl⟩
          rw [hQQ] at hrest
          have HQQ := Lib.hid hQQ; clear hQQ
          have hmx2 := Hu.mixed_twice out (I ++ [(m1, m2)]) (m1, m2) (by simp)
          have HRS := Lib.hid hrest; have HMX := Lib.hid hmx; have HMX2 := Lib.hid hmx2; clear hrest hmx hmx2 hkr
          have hwfm : ∀ m ∈ I ++ [(m1, m2)], Wf m.1 := fun m h => by rcases List.mem_append.1 h with h | h; exact hwf1 m h; exact hwfr m (by simp at h; subst h; exact List.mem_of_getElem? hm)
          have hwft : ∀ m ∈ I ++ [(m1, m2)] ++ [(m1, m2)], Wf m.1 := fun m h => by rcases List.mem_append.1 h with h | h; exact hwfm m h; exact hwfr m (by simp at h; subst h; exact List.mem_of_getElem? hm)
          have hlm : (I ++ [(m1, m2)]).length ≤ 41 := by simp; omega
          have hlt2 : (I ++ [(m1, m2)] ++ [(m1, m2)]).length ≤ 1000000 := by simp; omega
          obtain ⟨_, _, he, hrc, _, _⟩ := id hr
          cases he
          have hkc : (k : Int) ≤ (r3 : Int) := by omega
          have hkc1 : (k : Int) + 1 ≤ (RR.length : Int) := by omega
          obtain ⟨gr, or, hR3, _, _, _⟩ := hr.at_.msg hm
          subst hR3
          have HM := Lib.hid hm; clear hm
          have hal := ((Below.refl w7.heap.size w7).alloc (Nat.le_refl _) (.cells #[] 54))
          have hgot0 := (hi).next hal
          go_upto_region 17 with (at_builtin; refine wpList_rowS (r := Rep.msg) flat_msg rfl (.tmp 91) (.tmp 92) 24 rfl w7.heap.size 54 Try.infoMsg Try.underlying24 rfl (by omega) _ _ rfl (Row.empty Rep.msg 54 w7) (by simp) rfl hgot0 (by simp only [List.length_nil]; omega) ?_; intro v8 w8a b8a row8 hgr hb0 hap0)
          have hb := hal.trans hb0
          rw [List.nil_append] at row8
          clear hgr hb0 hap0 hal hgot0
          obtain ⟨A8, k8, rfl, hk8a, hk8b⟩ := row8.form
          have hrx := hr.next hb
          obtain ⟨_, _, he, _, _, c0, c1⟩ := hrx.at_.msg HM.out
          cases he
          dsimp only at c0 c1
          go_upto_region 18 with (at_builtin; refine wpList_rowB (r := Rep.msg) flat_msg (y := (m1, m2)) rfl (.tmp 94) (.tmp 99) 24 rfl w7.heap.size 54 Try.infoMsg Try.underlying24 rfl (by omega) _ rfl row8 hb.size 1 _ [.int .i64 m1, .int .i64 m2] rfl rfl rfl (by omega) ?_; intro v8 w8 b8 nrow8 hgr hb0 hap0)
          clear c0 c1 hrx
          replace hb := hb.trans hb0
          clear hgr hb0 hap0 row8
          replace hi := hi.next hb
          replace q1 := q1.next hb
          replace hr := hr.next hb
          replace hB := hB.trans (hb.mono hB.size)
          clear hb
          have r8 := nrow8.got
          have hal := ((Below.refl w8.heap.size w8).alloc (Nat.le_refl _) (.cells #[] 54))
          have hgot0 := (hr.head (k := k) (by omega)).next hal
          go_upto_region 19 with (at_builtin; refine wpList_rowS (r := Rep.msg) flat_msg rfl (.tmp 101) (.tmp 104) 24 rfl w8.heap.size 54 Try.infoMsg Try.underlying24 rfl (by omega) _ _ rfl (Row.empty Rep.msg 54 w8) (by simp) rfl hgot0 (by simp only [List.length_nil, List.length_take]; omega) ?_; intro v9 w9a b9a row9 hgr hb0 hap0)
          have hb := hal.trans hb0
          rw [List.nil_append] at row9
          clear hgr hb0 hap0 hal hgot0
          obtain ⟨A9, k9, rfl, hk9a, hk9b⟩ := row9.form
          have hgot1 := (hr.tail (k := k + 1) (by omega)).next hb
          go_upto_region 20 with (at_builtin; refine wpList_rowS (r := Rep.msg) flat_msg rfl (.tmp 106) (.tmp 110) 24 rfl w8.heap.size 54 Try.infoMsg Try.underlying24 rfl (by omega) _ _ rfl row9 hb.size rfl hgot1 (by simp only [List.length_take, List.length_drop]; omega) ?_; intro v9 w9 b9 nrow9 hgr hb0 hap0)
          clear hgot1
          rw [← HRS.out] at nrow9
          generalize (if r3 = k + 1 then (some ⟨gr, or, none⟩ : Option Addr) else some ⟨gr, or + (k + 1) * 2, none⟩) = AX
          replace hb := hb.trans hb0
          clear hgr hb0 hap0 row9
          replace hi := hi.next hb
          replace q1 := q1.next hb
          replace hr := hr.next hb
          replace r8 := r8.next hb
          replace hB := hB.trans (hb.mono hB.size)
          clear hb
          have r9 := nrow9.got
          have hal := ((Below.refl w9.heap.size w9).alloc (Nat.le_refl _) (.cells #[] 54))
          have hgot0 := (r8).next hal
          go_upto_region 21 with (at_builtin; refine wpList_rowS (r := Rep.msg) flat_msg rfl (.tmp 112) (.tmp 113) 24 rfl w9.heap.size 54 Try.infoMsg Try.underlying24 rfl (by omega) _ _ rfl (Row.empty Rep.msg 54 w9) (by simp) rfl hgot0 (by simp only [List.length_nil]; omega) ?_; intro v10 w10a b10a row10 hgr hb0 hap0)
          have hb := hal.trans hb0
          rw [List.nil_append] at row10
          clear hgr hb0 hap0 hal hgot0
          obtain ⟨A10, k10, rfl, hk10a, hk10b⟩ := row10.form
          have hrx := hr.next hb
          obtain ⟨_, _, he, _, _, c0, c1⟩ := hrx.at_.msg HM.out
          cases he
          dsimp only at c0 c1
          go_upto_region 22 with (at_builtin; refine wpList_rowB (r := Rep.msg) flat_msg (y := (m1, m2)) rfl (.tmp 115) (.tmp 120) 24 rfl w9.heap.size 54 Try.infoMsg Try.underlying24 rfl (by omega) _ rfl row10 hb.size 1 _ [.int .i64 m1, .int .i64 m2] rfl rfl rfl (by omega) ?_; intro v10 w10 b10 nrow10 hgr hb0 hap0)
          clear c0 c1 hrx
          replace hb := hb.trans hb0
          clear hgr hb0 hap0 row10
          replace hi := hi.next hb
          replace q1 := q1.next hb
          replace hr := hr.next hb
          replace r8 := r8.next hb
          replace r9 := r9.next hb
          replace hB := hB.trans (hb.mono hB.size)
          clear hb
          have r10 := nrow10.got
          clear nrow8 nrow9 nrow10
          go_wp2_with fail
          refine (restq q1 r8 (by omega) (Nat.le_trans hlm (by omega)) hwfm HQQ.out).mono ?_
          rintro e w11 ⟨⟨R11, r11, rfl, _, z5⟩, hb⟩
          replace q1 := q1.next hb
          replace r8 := r8.next hb
          replace r9 := r9.next hb
          replace r10 := r10.next hb
          replace hB := hB.trans (hb.mono hB.size)
          clear hb
          replace z5 := (z5.widen (Nat.zero_le _) (Nat.le_refl _)).soft
          go_wp2_with fail
          refine (msgsq (b := true) z5 r9 (by simp)).mono ?_
          rintro e w12 ⟨rfl, hb⟩
          replace q1 := q1.next hb
          replace r8 := r8.next hb
          replace r9 := r9.next hb
          replace r10 := r10.next hb
          replace hB := hB.trans (hb.mono hB.size)
          clear hb
          go_wp2_with fail
          refine (mixedq q1 r8 (by omega) (Nat.le_trans hlm (by omega)) hwfm HMX.out).mono ?_
          rintro e w13 ⟨rfl, hb⟩
          replace q1 := q1.next hb
          replace r8 := r8.next hb
          replace r9 := r9.next hb
          replace r10 := r10.next hb
          replace hB := hB.trans (hb.mono hB.size)
          clear hb
          go_wp2_with fail
          refine (mixedq q1 r10 (by omega) hlt2 hwft HMX2.out).mono ?_
          rintro e w14 ⟨rfl, hb⟩
          replace q1 := q1.next hb
          replace r8 := r8.next hb
          replace r9 := r9.next hb
          replace r10 := r10.next hb
          replace hB := hB.trans (hb.mono hB.size)
          clear hb
          go_wp2_with fail
          refine (fixed11_any _).mono ?_
          rintro e w15 ⟨rfl, hb⟩
          replace q1 := q1.next hb
          replace r8 := r8.next hb
          replace r9 := r9.next hb
          replace r10 := r10.next hb
          replace hB := hB.trans (hb.mono hB.size)
          clear hb
          go_wp2_with fail
          go_ret
          exact ⟨rfl, hB⟩
    ·
      rw [List.take_of_length_le (by rw [Hu.numb_length]; omega)] at hin
      obtain ⟨I, hI⟩ : ∃ I, ((Hu.numb 0 out).filter (Hu.gotP xs2)) = I := ⟨_, rfl⟩
      rw [hI] at hin
      have hpm : I.Perm ((Hu.numb 0 out).filter (Hu.gotP xs2)) := hI ▸ List.Perm.refl _
      have hbp := Hu.both_perm out hpm
      obtain ⟨RR, hRR⟩ : ∃ R, Hu.rest out I = R := ⟨_, rfl⟩
      rw [hRR] at hbp
      have hlen : (I ++ RR).length = out.length := hbp.length_eq.trans (Hu.numb_length _ _)
      rw [List.length_append] at hlen
      have hwf2 : ∀ m ∈ I ++ RR, Wf m.1 := fun m hm => numb_wf (by omega) m (hbp.mem_iff.1 hm)
      have hwf1 : ∀ m ∈ I, Wf m.1 := fun m hm => hwf2 m (List.mem_append_left _ hm)
      have hwfr : ∀ m ∈ RR, Wf m.1 := fun m hm => hwf2 m (List.mem_append_right _ hm)
      have hod : (out.length : Int) < ((out.length : Int) + 1 + a3, (0 : Int)).1 := by show (out.length : Int) < (out.length : Int) + 1 + a3; omega
      have hm1 := Hu.mixed_odd (l := I) hod
      have hr1 := Hu.rest_odd (l := I) hod
      rw [hRR] at hr1
      have hwfo : ∀ m ∈ I ++ [((out.length : Int) + 1 + a3, (0 : Int))], Wf m.1 := fun m hm => by rcases List.mem_append.1 hm with h | h; exact hwf1 m h; simp at h; subst h; exact wf_of (by show _ ≤ (out.length : Int) + 1 + a3; omega) (by show (out.length : Int) + 1 + a3 ≤ _; omega)
      have hlo : (I ++ [((out.length : Int) + 1 + a3, (0 : Int))]).length ≤ 1000000 := by simp; omega
      have HPM := Lib.hid hpm; have HRR := Lib.hid hRR; have HM1 := Lib.hid hm1; have HR1 := Lib.hid hr1; clear hpm hRR hm1 hr1 hbp hI hod hcl1
      have q1 := (q1.below hB (Nat.le_refl _)).widen (Nat.le_refl _) hB.size
      obtain ⟨A7, k7, hu7, _, _⟩ := hin.form
      subst hu7
      have hi := hin.got; clear hin
      go_wp2_with fail
      refine (restq q1 hi (by omega) (by omega) hwf1 HRR.out).mono ?_
      rintro e w3 ⟨⟨R3, r3, rfl, hc3, hr⟩, hb⟩
      replace hi := hi.next hb
      replace q1 := q1.next hb
      replace hB := hB.trans (hb.mono hB.size)
      clear hb
      replace hr := (hr.widen (Nat.zero_le _) (Nat.le_refl _)).soft
      have hal := ((Below.refl w3.heap.size w3).alloc (Nat.le_refl _) (.cells #[] 54))
      have hgot0 := (hi).next hal
      go_upto_region 10 with (at_builtin; refine wpList_rowS (r := Rep.msg) flat_msg rfl (.tmp 50) (.tmp 51) 24 rfl w3.heap.size 54 Try.infoMsg Try.underlying24 rfl (by omega) _ _ rfl (Row.empty Rep.msg 54 w3) (by simp) rfl hgot0 (by simp only [List.length_nil]; omega) ?_; intro v4 w4a b4a row4 hgr hb0 hap0)
      have hb := hal.trans hb0
      rw [List.nil_append] at row4
      clear hgr hb0 hap0 hal hgot0
      obtain ⟨A4, k4, rfl, hk4a, hk4b⟩ := row4.form
      go_upto_region 11 with (at_builtin; refine wpList_rowB (r := Rep.msg) flat_msg (y := ((out.length : Int) + 1 + a3, 0)) rfl (.tmp 53) (.tmp 61) 24 rfl w3.heap.size 54 Try.infoMsg Try.underlying24 rfl (by omega) _ rfl row4 hb.size 1 _ [.int .i64 ((out.length : Int) + 1 + a3), .int .i64 0] rfl rfl rfl (by omega) ?_; intro v4 w4 b4 nrow4 hgr hb0 hap0)
      replace hb := hb.trans hb0
      clear hgr hb0 hap0 row4
      replace hi := hi.next hb
      replace q1 := q1.next hb
      replace hr := hr.next hb
      replace hB := hB.trans (hb.mono hB.size)
      clear hb
      have r4 := nrow4.got
      go_wp2_with fail
      refine (mixedq q1 r4 (by omega) hlo hwfo HM1.out).mono ?_
      rintro e w5 ⟨rfl, hb⟩
      replace hi := hi.next hb
      replace q1 := q1.next hb
      replace hr := hr.next hb
      replace r4 := r4.next hb
      replace hB := hB.trans (hb.mono hB.size)
      clear hb
      go_wp2_with fail
      refine (restq q1 r4 (by omega) hlo hwfo HR1.out).mono ?_
      rintro e w6 ⟨⟨R5, r5, rfl, _, z5⟩, hb⟩
      replace hi := hi.next hb
      replace q1 := q1.next hb
      replace hr := hr.next hb
      replace r4 := r4.next hb
      replace hB := hB.trans (hb.mono hB.size)
      clear hb
      replace z5 := (z5.widen (Nat.zero_le _) (Nat.le_refl _)).soft
      go_wp2_with fail
      refine (msgsq (b := true) z5 hr (by simp)).mono ?_
      rintro e w7 ⟨rfl, hb⟩
      replace hi := hi.next hb
      replace q1 := q1.next hb
      replace hr := hr.next hb
      replace r4 := r4.next hb
      replace hB := hB.trans (hb.mono hB.size)
      clear hb
      clear z5 r4 nrow4
      by_cases hz : RR.length = 0
      ·
        obtain rfl : RR = [] := List.eq_nil_of_length_eq_zero hz
        have hil : I.length = out.length := Hu.rest_none HPM.out HRR.out
        go_wp2_with fail
        refine (fixed11_any _).mono ?_
        rintro e w8 ⟨rfl, hb⟩
        replace hi := hi.next hb
        replace q1 := q1.next hb
        replace hr := hr.next hb
        replace hB := hB.trans (hb.mono hB.size)
        clear hb
        go_wp2_with fail
        go_ret
        exact ⟨rfl, hB⟩
      ·
        obtain ⟨k, hkm⟩ : ∃ k : Nat, a3.tmod (RR.length : Int) = (k : Int) := ⟨(a3.tmod (RR.length : Int)).toNat, (Int.toNat_of_nonneg (Int.tmod_nonneg _ ha2.1)).symm⟩
        have hkl : k < RR.length := by have := Int.tmod_lt_of_pos a3 (show (0 : Int) < (RR.length : Int) by omega); omega
        obtain ⟨⟨m1, m2⟩, hm⟩ := Pc.get_at hkl
        have hkr : (Hu.rest out I)[k]? = some (m1, m2) := by rw [HRR.out]; exact hm
        obtain ⟨hrest, hmx⟩ := Hu.more_rest HPM.out hkr
        rw [HRR.out] at hrest
        obtain ⟨QQ, hQQ⟩ : ∃ q, Hu.rest out (I ++ [(m1, m2)]) = q := ⟨_, rfl⟩
        rw [hQQ] at hrest
        have HQQ := Lib.hid hQQ; clear hQQ
        have hmx2 := Hu.mixed_twice out (I ++ [(m1, m2)]) (m1, m2) (by simp)
        have HRS := Lib.hid hrest; have HMX := Lib.hid hmx; have HMX2 := Lib.hid hmx2; clear hrest hmx hmx2 hkr
        have hwfm : ∀ m ∈ I ++ [(m1, m2)], Wf m.1 := fun m h => by rcases List.mem_append.1 h with h | h; exact hwf1 m h; exact hwfr m (by simp at h; subst h; exact List.mem_of_getElem? hm)
        have hwft : ∀ m ∈ I ++ [(m1, m2)] ++ [(m1, m2)], Wf m.1 := fun m h => by rcases List.mem_append.1 h with h | h; exact hwfm m h; exact hwfr m (by simp at h; subst h; exact List.mem_of_getElem? hm)
        have hlm : (I ++ [(m1, m2)]).length ≤ 41 := by simp; omega
        have hlt2 : (I ++ [(m1, m2)] ++ [(m1, m2)]).length ≤ 1000000 := by simp; omega
        obtain ⟨_, _, he, hrc, _, _⟩ := id hr
        cases he
        have hkc : (k : Int) ≤ (r3 : Int) := by omega
        have hkc1 : (k : Int) + 1 ≤ (RR.length : Int) := by omega
        obtain ⟨gr, or, hR3, _, _, _⟩ := hr.at_.msg hm
        subst hR3
        have HM := Lib.hid hm; clear hm
        have hal := ((Below.refl w7.heap.size w7).alloc (Nat.le_refl _) (.cells #[] 54))
        have hgot0 := (hi).next hal
        go_upto_region 17 with (at_builtin; refine wpList_rowS (r := Rep.msg) flat_msg rfl (.tmp 91) (.tmp 92) 24 rfl w7.heap.size 54 Try.infoMsg Try.underlying24 rfl (by omega) _ _ rfl (Row.empty Rep.msg 54 w7) (by simp) rfl hgot0 (by simp only [List.length_nil]; omega) ?_; intro v8 w8a b8a row8 hgr hb0 hap0)
        have hb := hal.trans hb0
        rw [List.nil_append] at row8
        clear hgr hb0 hap0 hal hgot0
        obtain ⟨A8, k8, rfl, hk8a, hk8b⟩ := row8.form
        have hrx := hr.next hb
        obtain ⟨_, _, he, _, _, c0, c1⟩ := hrx.at_.msg HM.out
        cases he
        dsimp only at c0 c1
        go_upto_region 18 with (at_builtin; refine wpList_rowB (r := Rep.msg) flat_msg (y := (m1, m2)) rfl (.tmp 94) (.tmp 99) 24 rfl w7.heap.size 54 Try.infoMsg Try.underlying24 rfl (by omega) _ rfl row8 hb.size 1 _ [.int .i64 m1, .int .i64 m2] rfl rfl rfl (by omega) ?_; intro v8 w8 b8 nrow8 hgr hb0 hap0)
        clear c0 c1 hrx
        replace hb := hb.trans hb0
        clear hgr hb0 hap0 row8
        replace hi := hi.next hb
        replace q1 := q1.next hb
        replace hr := hr.next hb
        replace hB := hB.trans (hb.mono hB.size)
        clear hb
        have r8 := nrow8.got
        have hal := ((Below.refl w8.heap.size w8).alloc (Nat.le_refl _) (.cells #[] 54))
        have hgot0 := (hr.head (k := k) (by omega)).next hal
        go_upto_region 19 with (at_builtin; refine wpList_rowS (r := Rep.msg) flat_msg rfl (.tmp 101) (.tmp 104) 24 rfl w8.heap.size 54 Try.infoMsg Try.underlying24 rfl (by omega) _ _ rfl (Row.empty Rep.msg 54 w8) (by simp) rfl hgot0 (by simp only [List.length_nil, List.length_take]; omega) ?_; intro v9 w9a b9a row9 hgr hb0 hap0)
        have hb := hal.trans hb0
        rw [List.nil_append] at row9
        clear hgr hb0 hap0 hal hgot0
        obtain ⟨A9, k9, rfl, hk9a, hk9b⟩ := row9.form
        have hgot1 := (hr.tail (k := k + 1) (by omega)).next hb
        go_upto_region 20 with (at_builtin; refine wpList_rowS (r := Rep.msg) flat_msg rfl (.tmp 106) (.tmp 110) 24 rfl w8.heap.size 54 Try.infoMsg Try.underlying24 rfl (by omega) _ _ rfl row9 hb.size rfl hgot1 (by simp only [List.length_take, List.length_drop]; omega) ?_; intro v9 w9 b9 nrow9 hgr hb0 hap0)
        clear hgot1
        rw [← HRS.out] at nrow9
        generalize (if r3 = k + 1 then (some ⟨gr, or, none⟩ : Option Addr) else some ⟨gr, or + (k + 1) * 2, none⟩) = AX
        replace hb := hb.trans hb0
        clear hgr hb0 hap0 row9
        replace hi := hi.next hb
        replace q1 := q1.next hb
        replace hr := hr.next hb
        replace r8 := r8.next hb
        replace hB := hB.trans (hb.mono hB.size)
        clear hb
        have r9 := nrow9.got
        have hal := ((Below.refl w9.heap.size w9).alloc (Nat.le_refl _) (.cells #[] 54))
        have hgot0 := (r8).next hal
        go_upto_region 21 with (at_builtin; refine wpList_rowS (r := Rep.msg) flat_msg rfl (.tmp 112) (.tmp 113) 24 rfl w9.heap.size 54 Try.infoMsg Try.underlying24 rfl (by omega) _ _ rfl (Row.empty Rep.msg 54 w9) (by simp) rfl hgot0 (by simp only [List.length_nil]; omega) ?_; intro v10 w10a b10a row10 hgr hb0 hap0)
        have hb := hal.trans hb0
        rw [List.nil_append] at row10
        clear hgr hb0 hap0 hal hgot0
        obtain ⟨A10, k10, rfl, hk10a, hk10b⟩ := row10.form
        have hrx := hr.next hb
        obtain ⟨_, _, he, _, _, c0, c1⟩ := hrx.at_.msg HM.out
        cases he
        dsimp only at c0 c1
        go_upto_region 22 with (at_builtin; refine wpList_rowB (r := Rep.msg) flat_msg (y := (m1, m2)) rfl (.tmp 115) (.tmp 120) 24 rfl w9.heap.size 54 Try.infoMsg Try.underlying24 rfl (by omega) _ rfl row10 hb.size 1 _ [.int .i64 m1, .int .i64 m2] rfl rfl rfl (by omega) ?_; intro v10 w10 b10 nrow10 hgr hb0 hap0)
        clear c0 c1 hrx
        replace hb := hb.trans hb0
        clear hgr hb0 hap0 row10
        replace hi := hi.next hb
        replace q1 := q1.next hb
        replace hr := hr.next hb
        replace r8 := r8.next hb
        replace r9 := r9.next hb
        replace hB := hB.trans (hb.mono hB.size)
        clear hb
        have r10 := nrow10.got
        clear nrow8 nrow9 nrow10
        go_wp2_with fail
        refine (restq q1 r8 (by omega) (Nat.le_trans hlm (by omega)) hwfm HQQ.out).mono ?_
        rintro e w11 ⟨⟨R11, r11, rfl, _, z5⟩, hb⟩
        replace q1 := q1.next hb
        replace r8 := r8.next hb
        replace r9 := r9.next hb
        replace r10 := r10.next hb
        replace hB := hB.trans (hb.mono hB.size)
        clear hb
        replace z5 := (z5.widen (Nat.zero_le _) (Nat.le_refl _)).soft
        go_wp2_with fail
        refine (msgsq (b := true) z5 r9 (by simp)).mono ?_
        rintro e w12 ⟨rfl, hb⟩
        replace q1 := q1.next hb
        replace r8 := r8.next hb
        replace r9 := r9.next hb
        replace r10 := r10.next hb
        replace hB := hB.trans (hb.mono hB.size)
        clear hb
        go_wp2_with fail
        refine (mixedq q1 r8 (by omega) (Nat.le_trans hlm (by omega)) hwfm HMX.out).mono ?_
        rintro e w13 ⟨rfl, hb⟩
        replace q1 := q1.next hb
        replace r8 := r8.next hb
        replace r9 := r9.next hb
        replace r10 := r10.next hb
        replace hB := hB.trans (hb.mono hB.size)
        clear hb
        go_wp2_with fail
        refine (mixedq q1 r10 (by omega) hlt2 hwft HMX2.out).mono ?_
        rintro e w14 ⟨rfl, hb⟩
        replace q1 := q1.next hb
        replace r8 := r8.next hb
        replace r9 := r9.next hb
        replace r10 := r10.next hb
        replace hB := hB.trans (hb.mono hB.size)
        clear hb
        go_wp2_with fail
        refine (fixed11_any _).mono ?_
        rintro e w15 ⟨rfl, hb⟩
        replace q1 := q1.next hb
        replace r8 := r8.next hb
        replace r9 := r9.next hb
        replace r10 := r10.next hb
        replace hB := hB.trans (hb.mono hB.size)
        clear hb
        go_wp2_with fail
        go_ret
        exact ⟨rfl, hB⟩
end Go.Proofs.Ytmbilaepeekglaa.hueMore
