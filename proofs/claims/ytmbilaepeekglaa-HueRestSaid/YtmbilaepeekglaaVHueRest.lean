/- HueRest: the walk. -/
import Derived.Test.YtmbilaepeekglaaHRow
namespace Go.Proofs.Ytmbilaepeekglaa.hueRest
open Go.RowKit Go.Maps Go.Proofs.Ytmbilaepeekglaa

set_option maxRecDepth 100000 in
set_option maxHeartbeats 8000000 in
theorem walk (v1 : Value) (xs1 : List Int) (v2 : Value) (xs2 : List Bool) (w : World) (h1 : SliceIs Rep.int false w 0 w.heap.size v1 xs1) (h2 : SliceIs Rep.bool false w 0 w.heap.size v2 xs2) :
    Calls Try.prog 5 #[v1, v2] w fun x w' => x = .returned (.bool true) ∧ Below w.heap.size w w' := by
  obtain ⟨A1, c1, rfl, n1, m1, _⟩ := id h1
  obtain ⟨out, hcut1⟩ : ∃ ys, ys = xs1.take 40 := ⟨_, rfl⟩
  have hcl1 : (min (xs1.length : Int) 40).toNat = out.length := by rw [hcut1]; simp; omega
  have l1 : out.length ≤ 40 := by rw [hcut1]; simp; omega
  have hm1 : (0 : Int) ≤ min (xs1.length : Int) 40 := by omega
  have hk1 : min (xs1.length : Int) 40 ≤ (c1 : Int) := by omega
  have q1 : SliceIs Rep.int false w 0 w.heap.size (.slice A1 out.length c1) out := hcut1 ▸ SliceIs.cut h1 40
  have e1 : out.length ≤ c1 := by omega
  clear hcut1 h1
  obtain ⟨_, _, he, _, _, hA1⟩ := id q1
  cases he
  have HA1 := Lib.hid hA1; clear hA1
  obtain ⟨A2, c2, rfl, n2, m2, hA2⟩ := h2
  have HA2 := Lib.hid hA2; clear hA2
  go_enter Try.func5, Try.ntmps5
  try simp only [List.append_eq, List.cons_append, List.nil_append]
  go_wp2_with fail
  refine name_wp fun W0 hW0 => ?_
  have hin : Row Rep.msg 54 w.heap.size W0 (some w.heap.size) (.slice (some ⟨w.heap.size, 0, none⟩) 0 0) [] := hW0 ▸ ((Row.empty Rep.msg 54 w).next ((Below.refl _ _).alloc (Nat.le_refl _) _))
  have hwant : Row Rep.msg 54 w.heap.size W0 (some (w.heap.size + 1)) (.slice (some ⟨w.heap.size + 1, 0, none⟩) 0 0) [] := by rw [← hW0]; have h0 := (Row.empty Rep.msg 54 (w.alloc (.cells #[] 54))).base (B' := w.heap.size) (by simp); rw [World.size_alloc] at h0; exact h0
  have hap : Apart (some w.heap.size) (some (w.heap.size + 1)) := fun k h1 h2 => by cases h1; injection h2; omega
  have hB : Below w.heap.size w W0 := hW0 ▸ ((Below.refl _ _).alloc (Nat.le_refl _) _).alloc (by simp) _
  clear hW0
  go_loopg [5, 7] out.length (fun k u iv wr => ∃ (j : Nat) (z : Int) (b : Option Nat), iv = .int .i64 z ∧ z = (j : Int) - 1 ∧ j ≤ out.length ∧ k = j ∧ Row Rep.msg 54 w.heap.size wr b u ((((Hu.numb 0 out).drop j).filter (Hu.gotP xs2)).reverse) ∧ Row Rep.msg 54 w.heap.size wr (some (w.heap.size + 1)) (.slice (some ⟨w.heap.size + 1, 0, none⟩) 0 0) [] ∧ Apart b (some (w.heap.size + 1)) ∧ Below w.heap.size w wr)
  case atStart => exact ⟨out.length, _, _, rfl, rfl, Nat.le_refl _, rfl, by rw [List.drop_of_length_le (by rw [Hu.numb_length]; exact Nat.le_refl _)]; exact hin, hwant, hap, hB⟩
  case round =>
    clear hin hwant hap hB
    obtain ⟨j, z, b, rfl, hz, hj, hk, hin, hwant, hap, hB⟩ := hrel
    cases j with
    | succ i =>
      obtain rfl : z = (i : Int) := by omega
      clear hz
      obtain ⟨x, hx⟩ := Pc.get_at (show i < out.length from hj)
      obtain ⟨g, o, rfl, _, hgl, c0⟩ := (HA1.out.below hB (Nat.le_refl _)).int hx
      have hst := Hu.in_step (Hu.gotP xs2) hx
      rw [Hu.gotP_at] at hst
      have hnl : ((((Hu.numb 0 out).drop (i + 1)).filter (Hu.gotP xs2)).reverse).length ≤ 1000000 := Nat.le_trans (Hu.in_len _ _ _) (by omega)
      have HX := Lib.hid hx; have HK := Lib.hid hk; clear hx hk
      go_upto_region 7 with fail
      clear c0
      refine name_wp fun V1 hV1 => ?_
      have bm : Box V1 wr.heap.size #[.int .i64 ((i : Int) + 1), .int .i64 x] 54 := hV1 ▸ Box.new _ _ _
      have hbv : Below wr.heap.size wr V1 := hV1 ▸ (Below.refl _ _).alloc (Nat.le_refl _) _
      clear hV1
      replace hin := hin.next hbv
      replace hwant := hwant.next hbv
      replace hB := hB.trans (hbv.mono hB.size)
      clear hbv
      by_cases hg : i < xs2.length
      ·
        obtain ⟨bv, hbv⟩ := Pc.get_at hg
        obtain ⟨g2, o2, rfl, _, hgl2, c1⟩ := (HA2.out.below hB (Nat.le_refl _)).bool hbv
        have hgd : xs2.getD i false = bv := by simp [List.getD, hbv]
        rw [hgd] at hst
        clear hgd hbv
        cases bv
        ·
          rw [if_neg (by simp), List.append_nil] at hst
          have HS := Lib.hid hst; clear hst
          rw [← HS.out] at hin
          go_wp2_with fail
          go_roundg i
          case rel => exact ⟨i, _, b, rfl, by simp, by omega, rfl, hin, hwant, hap, hB⟩
          case measure => have := HK.out; omega
        ·
          rw [if_pos rfl] at hst
          have HS := Lib.hid hst; clear hst
          obtain ⟨d0, d1⟩ := two_cells bm
          go_wp2_with (at_builtin; refine wpList_rowB (r := Rep.msg) flat_msg (y := ((i : Int) + 1, x)) rfl (.tmp 43) (.tmp 45) 24 rfl w.heap.size 54 Try.infoMsg Try.underlying24 rfl (by omega) _ rfl hin hB.size 1 _ [.int .i64 ((i : Int) + 1), .int .i64 x] rfl rfl rfl hnl ?_; intro v2 w2 b2 hnew hg2 hb3 ha2)
          clear d0 d1
          rw [← HS.out] at hnew
          go_roundg i
          case rel => exact ⟨i, _, b2, rfl, by simp, by omega, rfl, hnew, hwant.grown hg2 hap, hap.next hwant ha2, hB.trans hb3⟩
          case measure => have := HK.out; omega
      ·
        have hgd : xs2.getD i false = false := by simp [List.getD, List.getElem?_eq_none (show xs2.length ≤ i by omega)]
        rw [hgd, if_neg (by simp), List.append_nil] at hst
        clear hgd
        have HS := Lib.hid hst; clear hst
        rw [← HS.out] at hin
        go_wp2_with fail
        go_roundg i
        case rel => exact ⟨i, _, b, rfl, by simp, by omega, rfl, hin, hwant, hap, hB⟩
        case measure => have := HK.out; omega
    | zero =>
      obtain rfl : z = -1 := by omega
      clear hz hk hj
      rw [List.drop_zero] at hin
      obtain ⟨I, hI⟩ : ∃ I, (((Hu.numb 0 out).filter (Hu.gotP xs2)).reverse) = I := ⟨_, rfl⟩
      rw [hI] at hin
      have HI := Lib.hid hI; clear hI
      go_wp2_with fail
      go_loopg [6, 9] out.length (fun k u iv wq => ∃ (j : Nat) (c : Option Nat), iv = .int .i64 (j : Int) ∧ j ≤ out.length ∧ k = out.length - j ∧ Row Rep.msg 54 w.heap.size wq b u5 I ∧ Row Rep.msg 54 w.heap.size wq c u (((Hu.numb 0 out).take j).filter (fun m => !Hu.gotP xs2 m)) ∧ Apart c b ∧ Below w.heap.size w wq)
      case atStart => exact ⟨0, _, rfl, by omega, by omega, hin, hwant, hap.symm, hB⟩
      case round =>
        clear hin hwant hap hB
        obtain ⟨i, c, rfl, hj, hk, hin, hwant, hap, hB⟩ := hrel
        have HK := Lib.hid hk; clear hk
        by_cases hlt : i < out.length
        ·
          obtain ⟨x, hx⟩ := Pc.get_at hlt
          obtain ⟨g, o, rfl, _, hgl, c0⟩ := (HA1.out.below hB (Nat.le_refl _)).int hx
          have hst := Hu.want_step (fun m => !Hu.gotP xs2 m) hx
          rw [Hu.gotP_at] at hst
          have hnl : (((Hu.numb 0 out).take i).filter (fun m => !Hu.gotP xs2 m)).length ≤ 1000000 := Nat.le_trans (Hu.want_len _ _ _) (by omega)
          clear hx
          by_cases hg : i < xs2.length
          ·
            obtain ⟨bv, hbv⟩ := Pc.get_at hg
            obtain ⟨g2, o2, rfl, _, hgl2, c1⟩ := (HA2.out.below hB (Nat.le_refl _)).bool hbv
            have hgd : xs2.getD i false = bv := by simp [List.getD, hbv]
            rw [hgd] at hst
            clear hgd hbv
            cases bv
            ·
              rw [if_pos (show (!false) = true from rfl)] at hst
              have HS := Lib.hid hst; clear hst
              go_wp2_with (at_builtin; refine wpList_rowB (r := Rep.msg) flat_msg (y := ((i : Int) + 1, x)) rfl (.tmp 64) (.tmp 72) 24 rfl w.heap.size 54 Try.infoMsg Try.underlying24 rfl (by omega) _ rfl hwant hB.size 1 _ [.int .i64 ((i : Int) + 1), .int .i64 x] rfl rfl rfl hnl ?_; intro v2 w2 b2 hnew hg2 hb3 ha2)
              rw [← HS.out] at hnew
              go_roundg (out.length - (i + 1))
              case rel => exact ⟨i + 1, b2, by simp, by omega, rfl, hin.grown hg2 hap, hnew, hap.next hin ha2, hB.trans hb3⟩
              case measure => have := HK.out; omega
            ·
              rw [if_neg (by simp), List.append_nil] at hst
              have HS := Lib.hid hst; clear hst
              rw [← HS.out] at hwant
              go_wp2_with fail
              go_roundg (out.length - (i + 1))
              case rel => exact ⟨i + 1, c, by simp, by omega, rfl, hin, hwant, hap, hB⟩
              case measure => have := HK.out; omega
          ·
            have hgd : xs2.getD i false = false := by simp [List.getD, List.getElem?_eq_none (show xs2.length ≤ i by omega)]
            rw [hgd, if_pos (show (!false) = true from rfl)] at hst
            clear hgd
            have HS := Lib.hid hst; clear hst
            go_wp2_with (at_builtin; refine wpList_rowB (r := Rep.msg) flat_msg (y := ((i : Int) + 1, x)) rfl (.tmp 64) (.tmp 72) 24 rfl w.heap.size 54 Try.infoMsg Try.underlying24 rfl (by omega) _ rfl hwant hB.size 1 _ [.int .i64 ((i : Int) + 1), .int .i64 x] rfl rfl rfl hnl ?_; intro v2 w2 b2 hnew hg2 hb3 ha2)
            rw [← HS.out] at hnew
            go_roundg (out.length - (i + 1))
            case rel => exact ⟨i + 1, b2, by simp, by omega, rfl, hin.grown hg2 hap, hnew, hap.next hin ha2, hB.trans hb3⟩
            case measure => have := HK.out; omega
        ·
          rw [List.take_of_length_le (by rw [Hu.numb_length]; omega)] at hwant
          have hpm : I.Perm ((Hu.numb 0 out).filter (Hu.gotP xs2)) := HI.out ▸ Hu.in_perm _ _
          have hR : Hu.rest out I = (Hu.numb 0 out).filter (fun m => !Hu.gotP xs2 m) := (Hu.rest_perm hpm).trans (Hu.rest_filter _ _)
          rw [← hR] at hwant
          have hbp := Hu.both_perm out hpm
          obtain ⟨RR, hRR⟩ : ∃ R, Hu.rest out I = R := ⟨_, rfl⟩
          rw [hRR] at hwant hbp
          have hlen : (I ++ RR).length = out.length := hbp.length_eq.trans (Hu.numb_length _ _)
          have hwf2 : ∀ m ∈ I ++ RR, Wf m.1 := fun m hm => numb_wf (by omega) m (hbp.mem_iff.1 hm)
          have hwf1 : ∀ m ∈ I, Wf m.1 := fun m hm => hwf2 m (List.mem_append_left _ hm)
          have hmx1 : Hu.mixed out I = false := (Hu.mixed_perm hpm).trans (Hu.mixed_filter _ _)
          have hmx2 : Hu.mixed out (I ++ RR) = false := (Hu.mixed_perm hbp).trans (Hu.mixed_all _)
          have hr2 : Hu.rest out (I ++ RR) = [] := (Hu.rest_perm hbp).trans (Hu.rest_all _)
          have hl2 : (I ++ RR).length ≤ 40 := by omega
          have hlp : I.length + RR.length ≤ 40 := by rw [← List.length_append]; omega
          have hl1 : I.length ≤ 40 := by omega
          have HPM := Lib.hid hpm; have HR := Lib.hid hR; have HBP := Lib.hid hbp; have HL := Lib.hid hlen; have HM1 := Lib.hid hmx1; have HM2 := Lib.hid hmx2; have HR2 := Lib.hid hr2; have HL2 := Lib.hid hl2; have HRR := Lib.hid hRR; clear hpm hR hbp hlen hmx1 hmx2 hr2 hl2 hRR hcl1 hm1 hk1
          have q1 := (q1.below hB (Nat.le_refl _)).widen (Nat.le_refl _) hB.size
          go_wp2_with fail
          refine (restq q1 hin.got (by omega) (by omega) hwf1 HRR.out).mono ?_
          rintro e w3 ⟨⟨R3, r3, rfl, hc3, hr⟩, hb⟩
          replace hin := hin.next hb
          replace hwant := hwant.next hb
          replace q1 := q1.next hb
          replace hB := hB.trans (hb.mono hB.size)
          clear hb
          have hr := hr.soft
          go_upto_region 16 with (at_builtin; refine wpList_rowS (r := Rep.msg) flat_msg rfl (.tmp 77) (.tmp 78) 24 rfl w3.heap.size 54 Try.infoMsg Try.underlying24 rfl (by omega) _ _ rfl (Row.empty Rep.msg 54 w3) (by simp) rfl (hin.next ((Below.refl _ _).alloc (Nat.le_refl _) _)).got (by simp; omega) ?_; intro v4 w4 b4 hall hg4 hb4 ha4)
          have hb := ((Below.refl w3.heap.size w3).alloc (Nat.le_refl _) (.cells #[] 54)).trans hb4
          have hr4 := (hr.widen (Nat.zero_le _) (Nat.le_refl _)).next hb
          rw [List.nil_append] at hall
          obtain ⟨A4, k4, rfl, _, _⟩ := hall.form
          clear hg4 hb4 ha4
          go_wp2_with (at_builtin; refine wpList_rowS (r := Rep.msg) flat_msg rfl (.tmp 80) (.tmp 81) 24 rfl w3.heap.size 54 Try.infoMsg Try.underlying24 rfl (by omega) _ _ rfl hall hb.size rfl hr4 (by omega) ?_; intro v5 w5 b5 hall2 hg5 hb5 ha5)
          replace hb := hb.trans hb5
          obtain ⟨A5, k5, rfl, _, _⟩ := hall2.form
          rw [HL.out] at hall2 ⊢
          replace hin := hin.next hb
          replace hwant := hwant.next hb
          replace q1 := q1.next hb
          replace hr := (hr.widen (Nat.zero_le _) (Nat.le_refl _)).next hb
          replace hB := hB.trans (hb.mono hB.size)
          clear hb hr4 hall hg5 hb5 ha5
          go_wp2_with fail
          have hi := hin.got; have hw := hwant.got; have ha := hall2.got; clear hin hwant hall2
          refine (msgsq (b := true) hr hw (by simp)).mono ?_
          rintro e w6 ⟨rfl, hb⟩
          replace hi := hi.next hb
          replace hw := hw.next hb
          replace ha := ha.next hb
          replace q1 := q1.next hb
          replace hr := hr.next hb
          replace hB := hB.trans (hb.mono hB.size)
          clear hb
          go_wp2_with fail
          refine (mixedq q1 hi (by omega) (by omega) hwf1 HM1.out).mono ?_
          rintro e w7 ⟨rfl, hb⟩
          replace hi := hi.next hb
          replace hw := hw.next hb
          replace ha := ha.next hb
          replace q1 := q1.next hb
          replace hr := hr.next hb
          replace hB := hB.trans (hb.mono hB.size)
          clear hb
          go_wp2_with fail
          refine (mixedq q1 ha (by omega) (Nat.le_trans HL2.out (by omega)) hwf2 HM2.out).mono ?_
          rintro e w8 ⟨rfl, hb⟩
          replace hi := hi.next hb
          replace hw := hw.next hb
          replace ha := ha.next hb
          replace q1 := q1.next hb
          replace hr := hr.next hb
          replace hB := hB.trans (hb.mono hB.size)
          clear hb
          go_wp2_with fail
          refine (restq q1 ha (by omega) (Nat.le_trans HL2.out (by omega)) hwf2 HR2.out).mono ?_
          rintro e w9 ⟨⟨R9, r9, rfl, _, _⟩, hb⟩
          replace hi := hi.next hb
          replace hw := hw.next hb
          replace ha := ha.next hb
          replace q1 := q1.next hb
          replace hr := hr.next hb
          replace hB := hB.trans (hb.mono hB.size)
          clear hb
          go_wp2_with fail
          refine (fixed11_any _).mono ?_
          rintro e w10 ⟨rfl, hb⟩
          replace hi := hi.next hb
          replace hw := hw.next hb
          replace ha := ha.next hb
          replace q1 := q1.next hb
          replace hr := hr.next hb
          replace hB := hB.trans (hb.mono hB.size)
          clear hb
          go_wp2_with fail
          go_ret
          exact ⟨rfl, hB⟩
end Go.Proofs.Ytmbilaepeekglaa.hueRest
