/- HueLonger: the walk. -/
import Derived.Test.YtmbilaepeekglaaHRow
namespace Go.Proofs.Ytmbilaepeekglaa.hueLonger
open Go.RowKit Go.Maps Go.Proofs.Ytmbilaepeekglaa

set_option maxRecDepth 100000 in
set_option maxHeartbeats 8000000 in
theorem walk (v1 : Value) (xs1 : List Int) (v2 : Value) (xs2 : List Int) (v3 : Value) (xs3 : List (Int × Int)) (w : World) (h1 : SliceIs Rep.int false w 0 w.heap.size v1 xs1) (h2 : SliceIs Rep.int false w 0 w.heap.size v2 xs2) (h3 : SliceIs Rep.msg false w 0 w.heap.size v3 xs3) (hwf : ∀ m ∈ xs3, Wf m.1) :
    Calls Try.prog 7 #[v1, v2, v3] w fun x w' => x = .returned (.bool true) ∧ Below w.heap.size w w' := by
  obtain ⟨A1, c1, rfl, n1, m1, _⟩ := id h1
  obtain ⟨out, hcut1⟩ : ∃ ys, ys = xs1.take 30 := ⟨_, rfl⟩
  have hcl1 : (min (xs1.length : Int) 30).toNat = out.length := by rw [hcut1]; simp; omega
  have l1 : out.length ≤ 30 := by rw [hcut1]; simp; omega
  have hm1 : (0 : Int) ≤ min (xs1.length : Int) 30 := by omega
  have hk1 : min (xs1.length : Int) 30 ≤ (c1 : Int) := by omega
  have q1 : SliceIs Rep.int false w 0 w.heap.size (.slice A1 out.length c1) out := hcut1 ▸ SliceIs.cut h1 30
  have e1 : out.length ≤ c1 := by omega
  clear hcut1 h1
  obtain ⟨A2, c2, rfl, n2, m2, _⟩ := id h2
  obtain ⟨mo, hcut2⟩ : ∃ ys, ys = xs2.take 30 := ⟨_, rfl⟩
  have hcl2 : (min (xs2.length : Int) 30).toNat = mo.length := by rw [hcut2]; simp; omega
  have l2 : mo.length ≤ 30 := by rw [hcut2]; simp; omega
  have hm2 : (0 : Int) ≤ min (xs2.length : Int) 30 := by omega
  have hk2 : min (xs2.length : Int) 30 ≤ (c2 : Int) := by omega
  have q2 : SliceIs Rep.int false w 0 w.heap.size (.slice A2 mo.length c2) mo := hcut2 ▸ SliceIs.cut h2 30
  have e2 : mo.length ≤ c2 := by omega
  clear hcut2 h2
  obtain ⟨A3, c3, rfl, n3, m3, _⟩ := id h3
  obtain ⟨inn, hcut3⟩ : ∃ ys, ys = xs3.take 30 := ⟨_, rfl⟩
  have hcl3 : (min (xs3.length : Int) 30).toNat = inn.length := by rw [hcut3]; simp; omega
  have l3 : inn.length ≤ 30 := by rw [hcut3]; simp; omega
  have hm3 : (0 : Int) ≤ min (xs3.length : Int) 30 := by omega
  have hk3 : min (xs3.length : Int) 30 ≤ (c3 : Int) := by omega
  have q3 : SliceIs Rep.msg false w 0 w.heap.size (.slice A3 inn.length c3) inn := hcut3 ▸ SliceIs.cut h3 30
  have e3 : inn.length ≤ c3 := by omega
  have hwf' : ∀ m ∈ inn, Wf m.1 := fun m hm => hwf m (List.mem_of_mem_take (hcut3 ▸ hm))
  replace hwf := hwf'; clear hwf'
  clear hcut3 h3
  have hB := Below.refl w.heap.size w
  go_enter Try.func7, Try.ntmps7
  try simp only [List.append_eq, List.cons_append, List.nil_append]
  have hal := ((Below.refl w.heap.size w).alloc (Nat.le_refl _) (.cells #[] 3))
  have hgot0 := (q1).next hal
  go_upto_region 5 with (at_builtin; refine wpList_rowS (r := Rep.int) flat_int rfl (.tmp 26) (.tmp 27) 23 rfl w.heap.size 3 Try.infoInt Try.underlying23 rfl (by omega) _ _ rfl (Row.empty Rep.int 3 w) (by simp) rfl hgot0 (by simp only [List.length_nil]; omega) ?_; intro v8 w8a b8a row8 hgr hb0 hap0)
  have hb := hal.trans hb0
  rw [List.nil_append] at row8
  clear hgr hb0 hap0 hal hgot0
  obtain ⟨A8, k8, rfl, hk8a, hk8b⟩ := row8.form
  have hgot1 := (q2).next hb
  go_upto_region 6 with (at_builtin; refine wpList_rowS (r := Rep.int) flat_int rfl (.tmp 29) (.tmp 30) 23 rfl w.heap.size 3 Try.infoInt Try.underlying23 rfl (by omega) _ _ rfl row8 hb.size rfl hgot1 (by omega) ?_; intro v8 w8 b8 nrow8 hgr hb0 hap0)
  clear hgot1
  replace hb := hb.trans hb0
  clear hgr hb0 hap0 row8
  replace q1 := q1.next hb
  replace q2 := q2.next hb
  replace q3 := q3.next hb
  replace hB := hB.trans (hb.mono hB.size)
  clear hb
  have r8 := nrow8.got
  obtain ⟨AL, hAL⟩ : ∃ l, out ++ mo = l := ⟨_, rfl⟩
  have hALl : AL.length ≤ 60 := by rw [← hAL, List.length_append]; omega
  rw [hAL] at r8 nrow8
  obtain ⟨A9, k9, hv8, _, _⟩ := nrow8.form
  subst hv8
  clear nrow8
  obtain ⟨AA, hAA⟩ : ∃ l, Hu.rest out inn = l := ⟨_, rfl⟩
  obtain ⟨RB, hRB⟩ : ∃ l, Hu.rest AL inn = l := ⟨_, rfl⟩
  have hlen : AA.length ≤ RB.length := by rw [← hAA, ← hRB, ← hAL]; exact Hu.longer_len _ _ _
  have htk : RB.take AA.length = AA := by rw [← hAA, ← hRB, ← hAL]; exact Hu.longer_take _ _ _
  have hat : ∀ j, AA.length ≤ j → j < RB.length → ∃ (q : Nat) (x : Int), RB[j]? = some ((q : Int) + 1, x) ∧ out.length ≤ q ∧ q < AL.length ∧ AL[q]? = some x ∧ Hu.place inn ((q : Int) + 1) < 0 := by rw [← hAA, ← hRB, ← hAL]; exact fun j => Hu.longer_at
  have hbl : RB.length ≤ 60 := by rw [← hRB]; exact Nat.le_trans (List.length_filter_le _ _) (by rw [Hu.numb_length]; omega)
  have hmx : Hu.mixed out inn = false → Hu.mixed AL inn = false := by rw [← hAL]; exact Hu.mixed_longer
  have HAA := Lib.hid hAA; have HRB := Lib.hid hRB; have HTK := Lib.hid htk; have HAT := Lib.hid hat; have HMX := Lib.hid hmx; clear hAA hRB htk hat hmx hAL hcl1 hcl2 hcl3 hm1 hm2 hm3 hk1 hk2 hk3
  clear q2
  go_wp2_with fail
  refine (restq q1 q3 (by omega) (by omega) hwf HAA.out).mono ?_
  rintro e w9 ⟨⟨R3, r3, rfl, hc3, za⟩, hb⟩
  replace q1 := q1.next hb
  replace q3 := q3.next hb
  replace r8 := r8.next hb
  replace hB := hB.trans (hb.mono hB.size)
  clear hb
  replace za := (za.widen (Nat.zero_le _) (Nat.le_refl _)).soft
  go_wp2_with fail
  refine (restq r8 q3 (by omega) (by omega) hwf HRB.out).mono ?_
  rintro e w10 ⟨⟨R4, r4, rfl, hc4, zb⟩, hb⟩
  replace q1 := q1.next hb
  replace q3 := q3.next hb
  replace r8 := r8.next hb
  replace za := za.next hb
  replace hB := hB.trans (hb.mono hB.size)
  clear hb
  replace zb := (zb.widen (Nat.zero_le _) (Nat.le_refl _)).soft
  obtain ⟨_, _, he, hrc, _, _⟩ := id zb
  cases he
  have hkc : (AA.length : Int) ≤ (r4 : Int) := by omega
  have hcmp : (AA.length : Int) ≤ (RB.length : Int) := by omega
  have hnlt : ¬ RB.length < AA.length := by omega
  go_wp2_with fail
  have zh := zb.head hlen
  rw [HTK.out] at zh
  refine (msgsq (b := true) zh za (by simp)).mono ?_
  rintro e w11 ⟨rfl, hb⟩
  replace q1 := q1.next hb
  replace q3 := q3.next hb
  replace r8 := r8.next hb
  replace za := za.next hb
  replace zb := zb.next hb
  replace hB := hB.trans (hb.mono hB.size)
  clear hb
  go_wp2_with fail
  clear zh za
  have HQ1 := Lib.hid q1; have HQ3 := Lib.hid q3; have HR8 := Lib.hid r8; have HZB := Lib.hid zb; have HB := Lib.hid hB; clear q1 q3 r8 zb hB
  go_loopg [10] (RB.length - AA.length) (fun k iv wr => ∃ j : Nat, iv = .int .i64 (j : Int) ∧ AA.length ≤ j ∧ j ≤ RB.length ∧ k = RB.length - j ∧ Below w11.heap.size w11 wr)
  case atStart => exact ⟨AA.length, rfl, Nat.le_refl _, hlen, rfl, Below.refl _ _⟩
  case round =>
    obtain ⟨j, rfl, hj0, hj, hk, hV⟩ := hrel
    have HK := Lib.hid hk; clear hk
    by_cases hlt : j < RB.length
    ·
      obtain ⟨q, x, hx, hq1, hq2, hxq, hpl⟩ := HAT.out j hj0 hlt
      have hb2 := hV.drew
      have zb := HZB.out.next hb2; have q3 := HQ3.out.next hV; have r8 := HR8.out.next hb2
      obtain ⟨g, o, he, _, hgl, c0, c1⟩ := zb.at_.msg hx
      subst he
      dsimp only at c0 c1
      obtain ⟨g2, o2, he, _, hgl2, c2⟩ := r8.at_.int hxq
      subst he
      clear zb r8
      obtain ⟨z, hz⟩ : ∃ z, Hu.place inn ((q : Int) + 1) = z := ⟨_, rfl⟩
      rw [hz] at hpl
      have t1 : ¬ ((q : Int) + 1 ≤ (out.length : Int)) := by omega
      have t2 : ¬ ((q : Int) + 1 > (AL.length : Int)) := by omega
      have t3 : ¬ (z ≥ 0) := by omega
      have t4 : (q : Int) < (AL.length : Int) := by omega
      clear hx hxq hpl
      go_upto_region 12 with fail
      replace q3 := q3.next ((Below.refl _ _).drew)
      replace hV := hV.drew
      have hE := Ext.refl (wr.drew)
      refine region_go 4398046511104 (by kernel_rfl) ?_
      refine wpAny_go 4398046511104 0 [0, 1, 2, 3, 4, 5, 6, 7, 8, 9, 10, 11, 12, 13, 14, 15, 16, 17, 18, 25, 26, 27, 28, 29] 1040711679 21 (by kernel_rfl) (by kernel_rfl) (fun _ _ _ _ _ h => h) (by kernel_rfl) (by rfl) (by rfl) (by kernel_rfl) ?_
      simp only [List.map_cons, List.map_nil, List.getD_cons_succ, List.getD_cons_zero]
      go_wp2_with fail
      change wpAnyM _ _ _ _ _ _ _ _ _ _
      refine wpAny_takeM 30 rfl (by kernel_rfl) (by rfl : 1040711679 ||| 2 ^ 30 = 2114453503) (by kernel_rfl) (by kernel_rfl) (by kernel_rfl) (by kernel_rfl) (fun _ _ _ h => h) (.inl ⟨by rfl, fun w => by (go_simp; try with_reducible rfl)⟩) ?_
      refine wpAny_go 4398046511104 2114453503 [19, 20, 21, 22, 23, 24, 31, 32, 33, 34, 35, 36, 37, 38, 39, 40, 41] 4398046511103 3 (by kernel_rfl) (by kernel_rfl) (fun _ _ _ _ _ h => h) (by kernel_rfl) (by rfl) (by rfl) (by kernel_rfl) ?_
      simp only [List.map_cons, List.map_nil, List.getD_cons_succ, List.getD_cons_zero]
      go_wp2_with fail
      change wpAnyM _ _ _ _ _ _ _ _ _ _
      refine wpAny_oneM 42 8796093022207 (by kernel_rfl) (by kernel_rfl) (of_decide_eq_true (by kernel_rfl)) (by rfl) ?_
      simp only [List.getD_cons_succ, List.getD_cons_zero]
      go_wp2_with fail
      refine (placeq q3 hz).mono ?_
      rintro e w12 ⟨rfl, hb⟩
      replace q3 := q3.next hb
      replace hE := hE.trans (Ext.below hb (Nat.le_refl _))
      replace hV := hV.trans (hb.mono hV.size)
      clear hb
      go_wp2_with fail
      refine ⟨fun _ => hE, ?_⟩
      refine wpAny_go 4398046511104 8796093022207 [43, 44] 35184372088831 0 (by kernel_rfl) (by kernel_rfl) (fun _ _ _ _ _ h => h) (by kernel_rfl) (by rfl) (by rfl) (by kernel_rfl) ?_
      simp only [List.map_cons, List.map_nil, List.getD_cons_succ, List.getD_cons_zero]
      go_wp2_with fail
      change wpAnyM _ _ _ _ _ _ _ _ _ _
      refine wpAny_endM (by kernel_rfl) (by kernel_rfl) ?_
      go_wp2_with fail
      go_roundg (RB.length - (j + 1))
      case rel => exact ⟨j + 1, by simp, by omega, by omega, rfl, hV⟩
      case measure => have := HK.out; omega
    ·
      have q1 := HQ1.out.next hV; have q3 := HQ3.out.next hV; have r8 := HR8.out.next hV
      have hB := HB.out.trans (hV.mono HB.out.size)
      clear hV
      cases hm : Hu.mixed out inn
      ·
        have hm2 := HMX.out hm
        go_wp2_with fail
        refine (mixedq q1 q3 (by omega) (by omega) hwf hm).mono ?_
        rintro e w21 ⟨rfl, hb⟩
        replace q1 := q1.next hb
        replace q3 := q3.next hb
        replace r8 := r8.next hb
        replace hB := hB.trans (hb.mono hB.size)
        clear hb
        go_wp2_with fail
        refine (mixedq r8 q3 (by omega) (by omega) hwf hm2).mono ?_
        rintro e w22 ⟨rfl, hb⟩
        replace q1 := q1.next hb
        replace q3 := q3.next hb
        replace r8 := r8.next hb
        replace hB := hB.trans (hb.mono hB.size)
        clear hb
        go_wp2_with fail
        refine (fixed11_any _).mono ?_
        rintro e w23 ⟨rfl, hb⟩
        replace q1 := q1.next hb
        replace q3 := q3.next hb
        replace r8 := r8.next hb
        replace hB := hB.trans (hb.mono hB.size)
        clear hb
        go_wp2_with fail
        go_ret
        exact ⟨rfl, hB⟩
      ·
        go_wp2_with fail
        refine (mixedq q1 q3 (by omega) (by omega) hwf hm).mono ?_
        rintro e w21 ⟨rfl, hb⟩
        replace q1 := q1.next hb
        replace hB := hB.trans (hb.mono hB.size)
        clear hb
        go_wp2_with fail
        refine (fixed11_any _).mono ?_
        rintro e w22 ⟨rfl, hb⟩
        replace q1 := q1.next hb
        replace hB := hB.trans (hb.mono hB.size)
        clear hb
        go_wp2_with fail
        go_ret
        exact ⟨rfl, hB⟩
end Go.Proofs.Ytmbilaepeekglaa.hueLonger
