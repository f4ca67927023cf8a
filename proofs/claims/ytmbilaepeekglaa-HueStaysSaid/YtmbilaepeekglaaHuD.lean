/- slices.Index, Contains, ContainsFunc over messages; hue.Mixed -/
import Derived.Test.YtmbilaepeekglaaHuC
namespace Go.Proofs.Ytmbilaepeekglaa
open Go.RowKit Go.Maps

set_option maxRecDepth 100000 in
set_option maxHeartbeats 2000000 in
theorem indexMsg_any (v : Value) (m : Int × Int) (xs : List (Int × Int)) (w : World) (h : SliceIs Rep.msg false w 0 w.heap.size v xs) :
    Calls Try.prog 39 #[v, .agg #[.int .i64 m.1, .int .i64 m.2]] w fun x w' => x = .returned (.int .i64 (Pc.idx (fun x => decide (x = m)) xs)) ∧ Below w.heap.size w w' := by
  obtain ⟨A, c, rfl, hl, hm, hA⟩ := h
  obtain ⟨m1, m2⟩ := m
  dsimp only
  unfold maxLen at hm
  have HA := Lib.hid hA; clear hA
  have hb0 : Below w.heap.size w (w.alloc (.cells #[.int .i64 m1, .int .i64 m2] 54)) := (Below.refl _ _).alloc (Nat.le_refl _) _
  have hbox := Box.new w #[.int .i64 m1, .int .i64 m2] 54
  have HB := Lib.hid hbox; clear hbox
  go_enter Try.func39, Try.ntmps39
  go_wp2_with fail
  go_loopg [5, 8] xs.length (fun k _ i wr => ∃ j : Nat, i = .int .i64 (j : Int) ∧ j ≤ xs.length ∧ k = xs.length - j ∧ Pc.clear (fun x : Int × Int => decide (x = (m1, m2))) xs j ∧ Quiet (w.alloc (.cells #[.int .i64 m1, .int .i64 m2] 54)) wr)
  case atStart => exact ⟨0, rfl, by omega, by omega, Pc.clear_zero _ _, Quiet.refl _⟩
  case round =>
    obtain ⟨j, rfl, hj, hk, hr, hb⟩ := hrel
    have HR := Lib.hid hr; clear hr
    have HK := Lib.hid hk; clear hk
    have hbox : Box wr w.heap.size #[.int .i64 m1, .int .i64 m2] 54 := by unfold Box; rw [hb.heap]; exact HB.out
    have d0 := blk_cell hbox 0
    have d1 := blk_cell hbox 1
    simp only [List.getElem?_toArray, List.getElem?_cons_zero, List.getElem?_cons_succ] at d0 d1
    have hbl : Below w.heap.size w wr := hb0.trans (hb.below (B := w.heap.size))
    by_cases hlt : j < xs.length
    · obtain ⟨⟨x1, x2⟩, hx⟩ := Pc.get_at hlt
      obtain ⟨gx, o, rfl, _, hg, c0, c1⟩ := (HA.out.below hbl (Nat.le_refl _)).msg hx
      dsimp only at c0 c1
      have HX := Lib.hid hx; clear hx hbox
      by_cases e1 : m1 = x1
      · subst e1
        have b1 : (m1 == m1) = true := by simp
        by_cases e2 : m2 = x2
        · subst e2
          have b2 : (m2 == m2) = true := by simp
          go_wp2_with fail
          go_quiet (fail)
          go_wp2_with fail
          go_ret
          exact ⟨by rw [Pc.clear_at HR.out HX.out (by simp)]; rfl, hb0.trans ((hb.drewN _).below)⟩
        · have b2 : (m2 == x2) = false := by simpa using e2
          have E2 := Lib.hid e2; clear e2
          go_wp2_with fail
          go_quiet (fail)
          go_wp2_with fail
          go_roundg (xs.length - (j + 1))
          case rel => exact ⟨j + 1, by simp, by omega, rfl, Pc.clear_next HR.out HX.out (decide_eq_false (by intro e; exact E2.out (Prod.mk.inj e).2.symm)), hb.drewN _⟩
          case measure => have := HK.out; omega
      · have b1 : (m1 == x1) = false := by simpa using e1
        have E1 := Lib.hid e1; clear e1
        go_wp2_with fail
        go_quiet (fail)
        go_wp2_with fail
        go_roundg (xs.length - (j + 1))
        case rel => exact ⟨j + 1, by simp, by omega, rfl, Pc.clear_next HR.out HX.out (decide_eq_false (by intro e; exact E1.out (by have := congrArg Prod.fst e; exact this.symm))), hb.drewN _⟩
        case measure => have := HK.out; omega
    · go_wp2_with fail
      go_ret
      have hj2 : j = xs.length := by omega
      subst hj2
      exact ⟨by rw [Pc.clear_all HR.out]; rfl, hbl⟩

set_option maxRecDepth 100000 in
theorem containsMsg_any (v : Value) (m : Int × Int) (xs : List (Int × Int)) (w : World) (h : SliceIs Rep.msg false w 0 w.heap.size v xs) :
    Calls Try.prog 33 #[v, .agg #[.int .i64 m.1, .int .i64 m.2]] w fun x w' => x = .returned (.bool (xs.contains m)) ∧ Below w.heap.size w w' := by
  have hb0 : Below w.heap.size w (w.alloc (.cells #[.int .i64 m.1, .int .i64 m.2] 54)) := (Below.refl _ _).alloc (Nat.le_refl _) _
  have hi := indexMsg_any v m xs (w.alloc (.cells #[.int .i64 m.1, .int .i64 m.2] 54)) ((h.below hb0 (Nat.le_refl _)).widen (Nat.le_refl _) hb0.size)
  have hg := Pc.idx_ge (fun x : Int × Int => decide (x = m)) xs
  have e : xs.contains m = xs.any fun x => decide (x = m) := by
    rw [Bool.eq_iff_iff, List.contains_iff_mem]; simp
  rw [e]
  generalize Pc.idx (fun x : Int × Int => decide (x = m)) xs = i at hi hg
  have HI := Lib.hid hi; clear hi h
  rw [← hg.2]
  clear hg e
  go_enter Try.func33, Try.ntmps33
  go_wp2_with fail
  refine HI.out.mono ?_
  rintro e w1 ⟨rfl, hb⟩
  go_wp2_with fail
  go_ret
  exact ⟨rfl, hb0.trans (hb.mono hb0.size)⟩

namespace Hu
def odd (l sent : List Msg) (m : Msg) : Bool := decide (1 < cnt l m.1) || !sent.contains m
end Hu

set_option maxRecDepth 100000 in
set_option maxHeartbeats 2000000 in
theorem mixed1_any (m : Int × Int) (g b g' : Nat) (u : Value) (seen sent : List (Int × Int)) (w : World) (hw : Wf m.1) (hbox : Box w g #[.map (some b)] 64) (hc : CntIs w b seen) (hbox' : Box w g' #[u] 24) (hs : SliceIs Rep.msg false w 0 w.heap.size u sent) :
    Calls Try.prog 32 #[.agg #[.int .i64 m.1, .int .i64 m.2], .pointer (some ⟨g, 0, none⟩), .pointer (some ⟨g', 0, none⟩)] w fun y w' => y = .returned (.bool (Hu.odd seen sent m)) ∧ Below w.heap.size w w' := by
  have hb2 : Below w.heap.size w (w.alloc (.cells #[.int .i64 m.1, .int .i64 m.2] 54)) := (Below.refl _ _).alloc (Nat.le_refl _) _
  have hc2 := hc.next hb2
  have hk := cell_of_one (hbox.next hb2)
  have hk' := cell_of_one (hbox'.next hb2)
  obtain ⟨D, n, hown, hn, hD⟩ := hc2
  have hkey : keyOf Try.prog 3 (.int .i64 m.1) = some (.int .i64 m.1) := keyOf_int_mk Try.underlying3 hw
  have hC := containsMsg_any u m sent (w.alloc (.cells #[.int .i64 m.1, .int .i64 m.2] 54)) ((hs.below hb2 (Nat.le_refl _)).widen (Nat.le_refl _) hb2.size)
  have HD := Lib.hid hD; clear hD hc hbox
  have HC := Lib.hid hC; clear hC
  obtain ⟨A, c, rfl, _⟩ := hs
  by_cases hq : 1 < Hu.cnt seen m.1
  · have e : Hu.odd seen sent m = true := by simp [Hu.odd, hq]
    rw [e]
    go_enter Try.func32, Try.ntmps32
    go_wp2_with (at_lookup; refine wpList_lookup_own_int _ rfl _ _ 64 rfl 3 3 .i64 lawInt Try.underlying64 Try.underlying3 (zeroInt _) b n D rfl hown _ _ rfl hkey ?_; intro c hat hwc; rw [HD.out] at hat; injection hat with hat; injection hat with _ hat; subst hat)
    go_ret
    exact ⟨rfl, hb2⟩
  · have e : Hu.odd seen sent m = !sent.contains m := by simp [Hu.odd, hq]
    rw [e]
    go_enter Try.func32, Try.ntmps32
    go_wp2_with (at_lookup; refine wpList_lookup_own_int _ rfl _ _ 64 rfl 3 3 .i64 lawInt Try.underlying64 Try.underlying3 (zeroInt _) b n D rfl hown _ _ rfl hkey ?_; intro c hat hwc; rw [HD.out] at hat; injection hat with hat; injection hat with _ hat; subst hat)
    refine HC.out.mono ?_
    rintro e w1 ⟨rfl, hb⟩
    go_wp2_with fail
    go_ret
    have hq2 : decide ((1 : Int) < (Hu.cnt seen m.1 : Int)) = false := decide_eq_false (by omega)
    refine ⟨?_, hb2.trans (hb.mono hb2.size)⟩
    simp [hq2]

set_option maxRecDepth 100000 in
set_option maxHeartbeats 2000000 in
theorem index2_any (g b g' : Nat) (u : Value) (seen sent : List (Int × Int)) (v : Value) (xs : List (Int × Int)) (w : World) (h : SliceIs Rep.msg false w 0 w.heap.size v xs) (hwf : ∀ m ∈ xs, Wf m.1) (hbox : Box w g #[.map (some b)] 64) (hc : CntIs w b seen) (hbox' : Box w g' #[u] 24) (hs : SliceIs Rep.msg false w 0 w.heap.size u sent) :
    Calls Try.prog 38 #[v, .func (.func 32) #[] #[.pointer (some ⟨g, 0, none⟩), .pointer (some ⟨g', 0, none⟩)]] w fun x w' => x = .returned (.int .i64 (Pc.idx (Hu.odd seen sent) xs)) ∧ Below w.heap.size w w' := by
  obtain ⟨A, c, rfl, hl, hm, hA⟩ := h
  unfold maxLen at hm
  have HA := Lib.hid hA; clear hA
  have HW := Lib.hid hwf; clear hwf
  have HB := Lib.hid hbox; clear hbox
  have HC := Lib.hid hc; clear hc
  have HB' := Lib.hid hbox'; clear hbox'
  have HS := Lib.hid hs; clear hs
  go_enter Try.func38, Try.ntmps38
  go_wp2_with fail
  go_loopg [5, 8] xs.length (fun k _ i wr => ∃ j : Nat, i = .int .i64 (j : Int) ∧ j ≤ xs.length ∧ k = xs.length - j ∧ Pc.clear (Hu.odd seen sent) xs j ∧ Below w.heap.size w wr)
  case atStart => exact ⟨0, rfl, by omega, by omega, Pc.clear_zero _ _, Below.refl _ _⟩
  case round =>
    obtain ⟨j, rfl, hj, hk, hr, hb⟩ := hrel
    have HR := Lib.hid hr; clear hr
    have HK := Lib.hid hk; clear hk
    by_cases hlt : j < xs.length
    · obtain ⟨x, hx⟩ := Pc.get_at hlt
      obtain ⟨gx, o, rfl, _, hg, c0, c1⟩ := (HA.out.below hb (Nat.le_refl _)).msg hx
      have hwx := HW.out x (List.mem_of_getElem? hx)
      have HX := Lib.hid hx; clear hx
      go_wp2_with fail
      refine (mixed1_any x g b g' u seen sent _ hwx (HB.out.next hb) (HC.out.next hb) (HB'.out.next hb) ((HS.out.below hb (Nat.le_refl _)).widen (Nat.le_refl _) hb.size)).mono ?_
      rintro e w1 ⟨rfl, hb1⟩
      cases hbx : Hu.odd seen sent x
      · have HBX := Lib.hid hbx; clear hbx
        go_wp2_with fail
        go_roundg (xs.length - (j + 1))
        case rel => exact ⟨j + 1, by simp, by omega, rfl, Pc.clear_next HR.out HX.out HBX.out, hb.trans (hb1.mono hb.size)⟩
        case measure => have := HK.out; omega
      · have HBX := Lib.hid hbx; clear hbx
        go_wp2_with fail
        go_ret
        exact ⟨by rw [Pc.clear_at HR.out HX.out HBX.out]; rfl, hb.trans (hb1.mono hb.size)⟩
    · go_wp2_with fail
      go_ret
      have hj2 : j = xs.length := by omega
      subst hj2
      exact ⟨by rw [Pc.clear_all HR.out]; rfl, hb⟩

set_option maxRecDepth 100000 in
theorem containsF_any (g b g' : Nat) (u : Value) (seen sent : List (Int × Int)) (v : Value) (xs : List (Int × Int)) (w : World) (h : SliceIs Rep.msg false w 0 w.heap.size v xs) (hwf : ∀ m ∈ xs, Wf m.1) (hbox : Box w g #[.map (some b)] 64) (hc : CntIs w b seen) (hbox' : Box w g' #[u] 24) (hs : SliceIs Rep.msg false w 0 w.heap.size u sent) :
    Calls Try.prog 31 #[v, .func (.func 32) #[] #[.pointer (some ⟨g, 0, none⟩), .pointer (some ⟨g', 0, none⟩)]] w fun x w' => x = .returned (.bool (xs.any (Hu.odd seen sent))) ∧ Below w.heap.size w w' := by
  have hi := index2_any g b g' u seen sent v xs w h hwf hbox hc hbox' hs
  have hg := Pc.idx_ge (Hu.odd seen sent) xs
  generalize Pc.idx (Hu.odd seen sent) xs = i at hi hg
  have HI := Lib.hid hi; clear hi hbox hc hbox' hs h hwf
  rw [← hg.2]
  clear hg
  go_enter Try.func31, Try.ntmps31
  go_wp2_with fail
  refine HI.out.mono ?_
  rintro e w1 ⟨rfl, hb⟩
  go_wp2_with fail
  go_ret
  exact ⟨rfl, hb⟩

set_option maxRecDepth 100000 in
set_option maxHeartbeats 2000000 in
theorem mixed_any (v u : Value) (out : List Int) (l : List (Int × Int)) (w : World) (h : SliceIs Rep.int false w 0 w.heap.size v out) (h' : SliceIs Rep.msg false w 0 w.heap.size u l) (hx : out.length ≤ 1000000) (hl : l.length ≤ 1000000) (hwf : ∀ m ∈ l, Wf m.1) :
    Calls Try.prog 19 #[v, u] w fun y w' => y = .returned (.bool (Hu.mixed out l)) ∧ Below w.heap.size w w' := by
  have hmf : ∀ (fn : Fn) (first cap : Array Value) (w : World), (Instr.makeFunc fn first cap).run Try.prog w = .ok (.func fn first cap) w := fun _ _ _ _ => rfl
  have hT := times_any u l w h' hl hwf
  have HT := Lib.hid hT; clear hT
  have HO := Lib.hid h; clear h
  have HI := Lib.hid h'
  have HW := Lib.hid hwf; clear hwf
  obtain ⟨A, c, rfl, _, hm, _⟩ := h'
  obtain ⟨A', c', rfl, _, hm', _⟩ := id HO.out
  go_enter Try.func19, Try.ntmps19
  go_wp2_with fail
  refine HT.out.mono ?_
  rintro e w1 ⟨⟨b, rfl, hb0, hc⟩, hb1⟩
  go_wp2_with fail
  refine (all_any _ out _ ((HO.out.below hb1 (Nat.le_refl _)).widen (Nat.le_refl _) hb1.size) hx).mono ?_
  rintro e w2 ⟨⟨v2, rfl, hv2⟩, hb2⟩
  obtain ⟨A2, c2, rfl, _, _, _⟩ := id hv2
  obtain ⟨W, hW⟩ : ∃ W, W = (w2.alloc (.cells #[.map (some b)] 64)).alloc (.cells #[.slice A2 (Hu.numb 0 out).length c2] 24) := ⟨_, rfl⟩
  have hbW : Below w2.heap.size w2 W := hW ▸ below_2 _ _ _
  have hx1 : Box W w2.heap.size #[.map (some b)] 64 := hW ▸ (Box.new _ _ _).alloc _
  have hx2 : Box W (w2.heap.size + 1) #[.slice A2 (Hu.numb 0 out).length c2] 24 := by
    have := Box.new (w2.alloc (.cells #[.map (some b)] 64)) #[.slice A2 (Hu.numb 0 out).length c2] 24
    rw [hW]; simpa using this
  have hcW := (hc.next hb2).next hbW
  have hlW : Below w.heap.size w W := hb1.trans ((hb2.mono hb1.size).trans (hbW.mono (Nat.le_trans hb1.size hb2.size)))
  have hiW := (HI.out.below hlW (Nat.le_refl _)).widen (Nat.le_refl _) hlW.size
  have hsW := ((hv2.below hbW (Nat.le_refl _)).widen (Nat.zero_le _) hbW.size).soft
  have hC := containsF_any w2.heap.size b (w2.heap.size + 1) _ l _ _ l W hiW HW.out hx1 hcW hx2 hsW
  have HC := Lib.hid hC; clear hC hx1 hx2 hcW hiW hsW
  have HLW := Lib.hid hlW; clear hlW hbW
  have HWW := Lib.hid hW; clear hW
  go_wp2_with fail
  rw [← HWW.out]
  refine HC.out.mono ?_
  rintro e w3 ⟨rfl, hb3⟩
  go_wp2_with fail
  go_ret
  exact ⟨rfl, HLW.out.trans (hb3.mono HLW.out.size)⟩
end Go.Proofs.Ytmbilaepeekglaa
