/- HueStays: the walk. -/
import Derived.Test.YtmbilaepeekglaaHSt
namespace Go.Proofs.Ytmbilaepeekglaa.hueStays
open Go.RowKit Go.Maps Go.Proofs.Ytmbilaepeekglaa

set_option maxRecDepth 100000 in
set_option maxHeartbeats 8000000 in
theorem walk (v1 : Value) (xs1 : List Int) (v2 : Value) (xs2 : List (Int × Int)) (a3 : Int) (_ : (Lit.int .i64 a3).wf = true) (w : World) (h1 : SliceIs Rep.int false w 0 w.heap.size v1 xs1) (h2 : SliceIs Rep.msg false w 0 w.heap.size v2 xs2) (_ : ∀ m ∈ xs2, Wf m.1) :
    Calls Try.prog 8 #[v1, v2, .int .i64 a3] w fun x w' => x = .returned (.bool true) ∧ Below w.heap.size w w' := by
  obtain ⟨A1, c1, rfl, n1, m1, _⟩ := id h1
  obtain ⟨out, hcut1⟩ : ∃ ys, ys = xs1.take 20 := ⟨_, rfl⟩
  have hcl1 : (min (xs1.length : Int) 20).toNat = out.length := by rw [hcut1]; simp; omega
  have l1 : out.length ≤ 20 := by rw [hcut1]; simp; omega
  have hm1 : (0 : Int) ≤ min (xs1.length : Int) 20 := by omega
  have hk1 : min (xs1.length : Int) 20 ≤ (c1 : Int) := by omega
  have q1 : SliceIs Rep.int false w 0 w.heap.size (.slice A1 out.length c1) out := hcut1 ▸ SliceIs.cut h1 20
  have e1 : out.length ≤ c1 := by omega
  clear hcut1 h1
  obtain ⟨A2, c2, rfl, n2, m2, _⟩ := id h2
  obtain ⟨inn, hcut2⟩ : ∃ ys, ys = xs2.take 20 := ⟨_, rfl⟩
  have hcl2 : (min (xs2.length : Int) 20).toNat = inn.length := by rw [hcut2]; simp; omega
  have l2 : inn.length ≤ 20 := by rw [hcut2]; simp; omega
  have hm2 : (0 : Int) ≤ min (xs2.length : Int) 20 := by omega
  have hk2 : min (xs2.length : Int) 20 ≤ (c2 : Int) := by omega
  have q2 : SliceIs Rep.msg false w 0 w.heap.size (.slice A2 inn.length c2) inn := hcut2 ▸ SliceIs.cut h2 20
  have e2 : inn.length ≤ c2 := by omega
  clear hcut2 h2
  go_enter Try.func8, Try.ntmps8
  try simp only [List.append_eq, List.cons_append, List.nil_append]
  have hal := ((Below.refl w.heap.size w).alloc (Nat.le_refl _) (.cells #[] 3))
  have hgot0 := (q1).next hal
  go_upto_region 2 with (at_builtin; refine wpList_rowS (r := Rep.int) flat_int rfl (.tmp 16) (.tmp 21) 23 rfl w.heap.size 3 Try.infoInt Try.underlying23 rfl (by omega) _ _ rfl (Row.empty Rep.int 3 w) (by simp) rfl hgot0 (by simp only [List.length_nil]; omega) ?_; intro v3 w3a b3a row3 hgr hb0 hap0)
  have hb := hal.trans hb0
  rw [List.nil_append] at row3
  clear hgr hb0 hap0 hal hgot0
  obtain ⟨A3, k3, rfl, hk3a, hk3b⟩ := row3.form
  have hB := hb
  have p3 := Pad.of row3
  have z3 := row3.got
  have q2 := q2.next hb
  clear hb row3 q1
  have s3 := hB.size
  have hal := ((Below.refl w3a.heap.size w3a).alloc (Nat.le_refl _) (.cells #[] 54))
  have hgot0 := (q2).next hal
  go_upto_region 3 with (at_builtin; refine wpList_rowS (r := Rep.msg) flat_msg rfl (.tmp 23) (.tmp 28) 24 rfl w3a.heap.size 54 Try.infoMsg Try.underlying24 rfl (by omega) _ _ rfl (Row.empty Rep.msg 54 w3a) (by simp) rfl hgot0 (by simp only [List.length_nil]; omega) ?_; intro v4 w4a b4a row4 hgr hb0 hap0)
  have hb := hal.trans hb0
  rw [List.nil_append] at row4
  clear hgr hb0 hap0 hal hgot0
  obtain ⟨A4, k4, rfl, hk4a, hk4b⟩ := row4.form
  have s4 := hb.size
  replace hB := hB.trans (hb.mono hB.size)
  replace p3 := p3.next hb (Nat.le_refl _)
  replace z3 := z3.next hb
  have p4 := Pad.of row4
  have z4 := row4.got
  clear hb row4 q2
  have halA := (Below.refl w4a.heap.size w4a).alloc (Nat.le_refl _) (.cells #[] 3)
  have hgotA := z3.next halA
  go_upto_region 4 with (first | (at_builtin; refine wpList_rowS (r := Rep.int) flat_int rfl (.tmp 30) (.tmp 31) 23 rfl w4a.heap.size 3 Try.infoInt Try.underlying23 rfl (by omega) _ _ rfl (Row.empty Rep.int 3 w4a) (by simp) rfl hgotA (by simp only [List.length_nil]; omega) ?_; intro v5 w5a b5a row5 hg5 hb5 ha5; have hb5n := halA.trans hb5; have halB := (Below.refl w5a.heap.size w5a).alloc (Nat.le_refl _) (.cells #[] 54); have hgotB := (z4.next hb5n).next halB; rw [List.nil_append] at row5; obtain ⟨A5, k5, rfl, hk5a, hk5b⟩ := row5.form) | (at_builtin; refine wpList_rowS (r := Rep.msg) flat_msg rfl (.tmp 33) (.tmp 34) 24 rfl w5a.heap.size 54 Try.infoMsg Try.underlying24 rfl (by omega) _ _ rfl (Row.empty Rep.msg 54 w5a) (by simp) rfl hgotB (by simp only [List.length_nil]; omega) ?_; intro v6 w6a b6a row6 hg6 hb6 ha6))
  have hb6n := halB.trans hb6
  rw [List.nil_append] at row6
  clear hgotA hgotB halA halB hb5 hb6 hg5 hg6 ha5 ha6
  have s5 := hb5n.size; have s6 := hb6n.size
  have was := (Lies.of (k := w4a.heap.size) row5.slice (Nat.le_refl _)).next hb6n
  have had := Lies.of (k := w4a.heap.size) row6.slice s5
  replace p3 := (p3.next hb5n s4).next hb6n (by omega)
  replace p4 := (p4.next hb5n (Nat.le_refl _)).next hb6n (by omega)
  replace z3 := (z3.next hb5n).next hb6n
  replace z4 := (z4.next hb5n).next hb6n
  have hB0 := (hB.trans (hb5n.mono hB.size)).trans (hb6n.mono (by omega))
  clear hB hb5n hb6n row5 row6
  go_upto_region 5 with fail
  refine name_wp fun W0 hW0 => ?_
  have bx0 : Box W0 (w6a.heap.size) #[.slice A4 inn.length k4] 24 := hW0 ▸ (((Box.new' #[.slice A4 inn.length k4] 24 (by simp)).alloc _).alloc _)
  have bx1 : Box W0 (w6a.heap.size + 1) #[.slice A3 out.length k3] 23 := hW0 ▸ ((Box.new' #[.slice A3 out.length k3] 23 (by simp)).alloc _)
  have bx2 : Box W0 (w6a.heap.size + 1 + 1) #[.int .i64 0, .int .i64 0, .int .i64 0, .slice (some ⟨w6a.heap.size, 0, none⟩) 1 1, .slice (some ⟨w6a.heap.size + 1, 0, none⟩) 1 1] 28 := hW0 ▸ (Box.new' #[.int .i64 0, .int .i64 0, .int .i64 0, .slice (some ⟨w6a.heap.size, 0, none⟩) 1 1, .slice (some ⟨w6a.heap.size + 1, 0, none⟩) 1 1] 28 (by simp))
  have hB : Below w6a.heap.size w6a W0 := hW0 ▸ (((Below.refl _ _).alloc (by first | (simp; done) | (simp; omega)) _).alloc (by first | (simp; done) | (simp; omega)) _).alloc (by first | (simp; done) | (simp; omega)) _
  have hst : HostIs false W0 0 W0.heap.size (.agg #[.int .i64 0, .int .i64 0, .int .i64 0, .slice (some ⟨w6a.heap.size, 0, none⟩) 1 1, .slice (some ⟨w6a.heap.size + 1, 0, none⟩) 1 1]) ⟨0, 0, 0, [inn], [out]⟩ := by
    refine ⟨_, _, rfl, SliceOn.is_ ?_, SliceOn.is_ ?_⟩
    · exact SliceOn.of_block (cells := [.slice A4 inn.length k4]) bx0 ⟨[_], [], rfl, ⟨_, rfl, z4.next hB⟩, rfl⟩ ⟨Nat.zero_le _, bx0.lt⟩ rfl (by simp) (by unfold maxLen; omega)
    · exact SliceOn.of_block (cells := [.slice A3 out.length k3]) bx1 ⟨[_], [], rfl, ⟨_, rfl, z3.next hB⟩, rfl⟩ ⟨Nat.zero_le _, bx1.lt⟩ rfl (by simp) (by unfold maxLen; omega)
  have hz : HueIs false W0 0 W0.heap.size (.agg #[.int .i64 0, .int .i64 0, .int .i64 0, .int .i64 0, .slice none 0 0, .slice none 0 0, .slice none 0 0]) 0 Pc.zero := HueIs.of (p := Pc.zero) ⟨_, _, _, rfl, SliceIs.none_, SliceIs.none_, SliceIs.none_⟩
  have hs : Hu.Host.sized ⟨0, 0, 0, [inn], [out]⟩ := ⟨by simp, by simp, by simp; omega, by simp; omega⟩
  have hx : (0 : Int) < max 1 a3 := by omega
  have s0 := hB.size
  replace was := was.next hB
  replace had := had.next hB
  replace p3 := p3.next hB (by omega)
  replace p4 := p4.next hB (by omega)
  replace hB0 := hB0.trans (hB.mono hB0.size)
  clear hB z3 z4 bx0 bx1 hW0 hcl1 hcl2 hm1 hm2 hk1 hk2
  have hB := hB0; clear hB0
  obtain ⟨d0, d1, d2, d3, d4⟩ := five_cells bx2
  go_wp2_with fail
  clear d0 d1 d2 d3 d4
  refine (turnq_yes hz hst hs hx).mono ?_
  rintro e w8 ⟨⟨v, rfl, hu⟩, hb⟩
  have s8 := hb.size
  replace was := was.next hb
  replace had := had.next hb
  replace p3 := p3.next hb (by omega)
  replace p4 := p4.next hb (by omega)
  replace hB := hB.trans (hb.mono hB.size)
  clear hb hz hst bx2
  obtain ⟨X3, X4, X5, x3, x4, x5, rfl, _, _, _, he, g3, g4, g5⟩ := hu
  cases he
  simp only [Hu.Host.told, List.map_cons, List.map_nil, List.length_cons, List.length_nil, Nat.zero_add] at g3 g4 g5 ⊢
  have u3 := Lies.of (k := w4a.heap.size) g3 (by omega); have u4 := Lies.of (k := w4a.heap.size) g4 (by omega); have u5 := Lies.of (k := w4a.heap.size) g5 (by omega)
  clear g3 g4 g5
  go_upto_region 6 with fail
  refine name_wp fun W1 hW1 => ?_
  have bu : Box W1 w8.heap.size #[.int .i64 (max 1 a3), .int .i64 0, .int .i64 0, .int .i64 0, .slice X3 1 x3, .slice X4 1 x4, .slice X5 1 x5] 32 := hW1 ▸ Box.new _ _ _
  have hb : Below w8.heap.size w8 W1 := hW1 ▸ (Below.refl _ _).alloc (Nat.le_refl _) _
  replace was := was.next hb
  replace had := had.next hb
  replace p3 := p3.next hb (by omega)
  replace p4 := p4.next hb (by omega)
  replace hB := hB.trans (hb.mono hB.size)
  replace u3 := u3.next hb; replace u4 := u4.next hb; replace u5 := u5.next hb
  clear hb hW1
  have HWA := Lib.hid was; have HHD := Lib.hid had; have HU3 := Lib.hid u3; have HU4 := Lib.hid u4; have HU5 := Lib.hid u5; have HBU := Lib.hid bu; have HP4 := Lib.hid p4; clear was had u3 u4 u5 p4
  obtain ⟨d0, d1, d2, d3, d4, d5, d6⟩ := seven_cells bu
  go_wp2_with fail
  clear d0 d1 d2 d3 d4 d5 d6 bu
  go_loopg [12] out.length (fun k iv wr => ∃ j : Nat, iv = .int .i64 (j : Int) ∧ j ≤ out.length ∧ k = out.length - j ∧ Pad wr w.heap.size w3a.heap.size (.slice A3 out.length k3) out.length 1 ∧ Kp w3a.heap.size W1 wr ∧ Below w.heap.size w wr)
  case atStart => exact ⟨0, rfl, by omega, by omega, p3, Kp.refl _ _, hB⟩
  case round =>
    clear p3 hB
    obtain ⟨j, rfl, hj, hk, p3, hkp, hB⟩ := hrel
    have HK := Lib.hid hk; clear hk
    by_cases hlt : j < out.length
    ·
      obtain ⟨g, hA, hg1, hg2, hc, hf⟩ := Pad.get p3 (by omega)
      subst hA
      obtain ⟨u0, c0⟩ := hc j (by omega)
      have f0 := hf j
      clear hc hf
      go_wp2_with fail
      go_roundg (out.length - (j + 1))
      case rel => exact ⟨j + 1, by simp, by omega, rfl, p3.set j _, hkp.set hg2 _, hB.setCell hg1 _⟩
      case measure => have := HK.out; omega
    ·
      have p4 := (hkp.up (k' := w3a.heap.size) (Nat.le_refl _)).pad HP4.out (Nat.le_refl _)
      replace hkp := hkp.up s4
      clear p3 HK
      go_wp2_with fail
      go_loopg [13] inn.length (fun k iv wq => ∃ j : Nat, iv = .int .i64 (j : Int) ∧ j ≤ inn.length ∧ k = inn.length - j ∧ Pad wq w3a.heap.size w4a.heap.size (.slice A4 inn.length k4) inn.length 2 ∧ Kp w4a.heap.size W1 wq ∧ Below w.heap.size w wq)
      case atStart => exact ⟨0, rfl, by omega, by omega, p4, hkp, hB⟩
      case round =>
        clear p4 hkp hB hj hlt
        obtain ⟨j, rfl, hj, hk, p4, hkp, hB⟩ := hrel
        have HK := Lib.hid hk; clear hk
        by_cases hlt : j < inn.length
        ·
          obtain ⟨g, hA, hg1, hg2, hc, hf⟩ := Pad.get p4 (by omega)
          subst hA
          obtain ⟨u0, c0⟩ := hc (j * 2) (by omega)
          obtain ⟨u1, c1⟩ := hc (j * 2 + 1) (by omega)
          have f0 := hf (j * 2); have f1 := hf (j * 2 + 1)
          clear hc hf
          go_wp2_with fail
          go_roundg (inn.length - (j + 1))
          case rel => exact ⟨j + 1, by simp, by omega, rfl, (p4.set _ _).set _ _, (hkp.set hg2 _).set hg2 _, (hB.setCell (Nat.le_trans s3 hg1) _).setCell (Nat.le_trans s3 hg1) _⟩
          case measure => have := HK.out; omega
        ·
          clear p4 HK HP4
          obtain ⟨W3, rfl⟩ : ∃ x : World, x = wr := ⟨_, rfl⟩
          have was := HWA.out.kp hkp; have had := HHD.out.kp hkp; have u3 := HU3.out.kp hkp; have u4 := HU4.out.kp hkp; have u5 := HU5.out.kp hkp; have bu := hkp.box HBU.out (by omega)
          clear hkp HWA HHD HU3 HU4 HU5 HBU
          obtain ⟨ga, oa, hXa, _, hga, ca⟩ := u3.got.at_.int (k := 0) (show [(out.length : Int)][0]? = some (out.length : Int) from rfl)
          subst hXa
          obtain ⟨gb, ob, vb, hXb, _, hgb, cb, rb⟩ := u4.got.at_.row (k := 0) (show [inn][0]? = some inn from rfl)
          subst hXb
          obtain ⟨gc, oc, vc, hXc, _, hgc, cc, rc⟩ := u5.got.at_.row (k := 0) (show [out][0]? = some out from rfl)
          subst hXc
          rw [Nat.add_zero] at ca cb cc
          obtain ⟨Y, y, rfl, hy1, hy2, _⟩ := id rc
          clear u3 u4 u5
          obtain ⟨d0, d1, d2, d3, d4, d5, d6⟩ := seven_cells bu
          go_wp2_with fail
          clear d0 d1 d2 d3 d4 d5 d6
          have HWA := Lib.hid was; have HHD := Lib.hid had; have HRB := Lib.hid rb; have HRC := Lib.hid rc; have HBU := Lib.hid bu; have HCB := Lib.hid cb; have HCC := Lib.hid cc; have HB := Lib.hid hB; clear was had rb rc bu cb cc ca hB
          go_loopg [14, 15] out.length (fun k ok iv wr => ∃ j : Nat, ok = .bool true ∧ iv = .int .i64 (j : Int) ∧ j ≤ out.length ∧ k = out.length - j ∧ Below W3.heap.size W3 wr)
          case atStart => exact ⟨0, rfl, rfl, by omega, by omega, Below.refl _ _⟩
          case round =>
            obtain ⟨j, rfl, rfl, hj, hk, hV⟩ := hrel
            have HK := Lib.hid hk; clear hk
            by_cases hlt : j < out.length
            ·
              have hd := hV.drew
              obtain ⟨x, hx⟩ := Pc.get_at hlt
              obtain ⟨g1, o1, hA1, _, hg1, c1⟩ := (HRC.out.next hd).at_.int hx
              subst hA1
              obtain ⟨g2, o2, hA2, _, hg2, c2⟩ := (HWA.out.next hd).got.at_.int hx
              subst hA2
              clear hx
              have cc := cell_next HCC.out hd hgc
              obtain ⟨d0, d1, d2, d3, d4, d5, d6⟩ := seven_cells (HBU.out.next hd)
              go_upto_region 20 with fail
              replace hV := hV.drew
              have hE := Ext.refl (wr.drew)
              refine region_go 0 (by kernel_rfl) ?_
              refine wpAny_go 0 0 [0, 1, 2, 3, 4, 5, 6, 7, 8, 9, 10, 11, 12, 13] 16383 0 (by kernel_rfl) (by kernel_rfl) (fun _ _ _ _ _ h => h) (by kernel_rfl) (by rfl) (by rfl) (by kernel_rfl) ?_
              simp only [List.map_cons, List.map_nil, List.getD_cons_succ, List.getD_cons_zero]
              go_wp2_with fail
              change wpAnyM _ _ _ _ _ _ _ _ _ _
              refine wpAny_endM (by kernel_rfl) (by kernel_rfl) ?_
              go_wp2_with fail
              go_roundg (out.length - (j + 1))
              case rel => exact ⟨j + 1, by simp, by simp, by omega, rfl, hV⟩
              case measure => have := HK.out; omega
            ·
              have had := HHD.out.next hV; have rb := HRB.out.next hV; have cb := cell_next HCB.out hV hgb
              have hB := HB.out.trans (hV.mono HB.out.size)
              have bu2 := HBU.out.next hV
              clear hV
              obtain ⟨d0, d1, d2, d3, d4, d5, d6⟩ := seven_cells bu2
              go_wp2_with fail
              clear d0 d1 d2 d3 d4 d5 d6 cb
              refine (msgsq (b := true) rb had.got (by simp)).mono ?_
              rintro e w21 ⟨rfl, hb⟩
              replace hB := hB.trans (hb.mono hB.size)
              clear hb
              go_wp2_with fail
              refine (fixed11_any _).mono ?_
              rintro e w22 ⟨rfl, hb⟩
              replace hB := hB.trans (hb.mono hB.size)
              clear hb
              go_wp2_with fail
              go_ret
              exact ⟨rfl, hB⟩
end Go.Proofs.Ytmbilaepeekglaa.hueStays
