/- The document's Place, Rest, Mixed. -/
import Derived.Test.YtmbilaepeekglaaHuD
namespace Go.Proofs.Ytmbilaepeekglaa
open Go.RowKit Go.Maps

namespace Hu
theorem place_idx (l : List Msg) (s : Int) : place l s = Pc.idx (fun m => m.1 == s) l := by
  unfold place
  rcases Pc.idx_spec (fun m : Msg => m.1 == s) l with ⟨h1, h2⟩ | ⟨k, x, h1, h2, h3, h4, h5⟩
  · have : l.findIdx? (fun m => m.1 == s) = none := by
      rw [List.findIdx?_eq_none_iff]
      intro x hx
      obtain ⟨i, hi, rfl⟩ := List.mem_iff_getElem.1 hx
      exact h2 i _ hi (List.getElem?_eq_getElem hi)
    rw [this, h1]
  · have : l.findIdx? (fun m => m.1 == s) = some k := by
      rw [List.findIdx?_eq_some_iff_getElem]
      obtain ⟨_, rfl⟩ := List.getElem?_eq_some_iff.1 h3
      exact ⟨h2, h4, fun j hj => by have := h5 j _ hj (List.getElem?_eq_getElem (by omega)); simp only at this; rw [this]; simp⟩
    rw [this, h1]
theorem place_yes {l : List Msg} {s : Int} (h : has l s = true) : ∃ k : Nat, place l s = k := by
  unfold place
  cases hf : l.findIdx? fun m => m.1 == s with
  | none =>
    obtain ⟨x, hx, he⟩ := has_iff.1 h
    have := List.findIdx?_eq_none_iff.1 hf x hx
    simp [he] at this
  | some k => exact ⟨k, rfl⟩
theorem place_no {l : List Msg} {s : Int} (h : has l s = false) : place l s = -1 := by
  unfold place
  cases hf : l.findIdx? fun m => m.1 == s with
  | none => rfl
  | some k =>
    obtain ⟨hi, hp, _⟩ := List.findIdx?_eq_some_iff_getElem.1 hf
    have : has l s = true := has_iff.2 ⟨_, List.getElem_mem hi, by simpa using hp⟩
    rw [h] at this; cases this
theorem rest_take {out : List Int} {l : List Msg} {j : Nat} {x : Int} (hx : out[j]? = some x) : rest (out.take (j + 1)) l = rest (out.take j) l ++ if has l ((j : Int) + 1) then [] else [((j : Int) + 1, x)] := by
  have hj := (List.getElem?_eq_some_iff.1 hx).1
  rw [Pc.take_next hx, rest_append]
  congr 1
  have e : (out.take j).length = j := by simp; omega
  rw [e]
  simp only [numb, List.filter_cons, List.filter_nil]
  cases has l ((j : Int) + 1) <;> rfl
end Hu

set_option maxRecDepth 100000 in
set_option maxHeartbeats 2000000 in
theorem place_any (v : Value) (l : List (Int × Int)) (s : Int) (w : World) (h : SliceIs Rep.msg false w 0 w.heap.size v l) :
    Calls Try.prog 22 #[v, .int .i64 s] w fun x w' => x = .returned (.int .i64 (Hu.place l s)) ∧ Quiet w w' := by
  rw [Hu.place_idx]
  obtain ⟨A, c, rfl, hl, hm, hA⟩ := h
  unfold maxLen at hm
  go_enter Try.func22, Try.ntmps22
  go_wp2_with fail
  go_loopg [5] l.length (fun k i wr => ∃ j : Nat, i = .int .i64 (j : Int) ∧ j ≤ l.length ∧ k = l.length - j ∧ Pc.clear (fun m : Int × Int => m.1 == s) l j ∧ Quiet w wr)
  case atStart => exact ⟨0, rfl, by omega, by omega, Pc.clear_zero _ _, Quiet.refl _⟩
  case round =>
    obtain ⟨j, rfl, hj, hk, hr, hb⟩ := hrel
    have HR := Lib.hid hr; clear hr
    have HK := Lib.hid hk; clear hk
    by_cases hlt : j < l.length
    · obtain ⟨⟨x1, x2⟩, hx⟩ := Pc.get_at hlt
      obtain ⟨g, o, rfl, _, _, c0, c1⟩ := (hb.at_ hA).msg hx
      dsimp only at c0 c1
      have HX := Lib.hid hx; clear hx
      clear hA
      by_cases e : x1 = s
      · subst e
        go_wp2_with fail
        go_ret
        exact ⟨by rw [Pc.clear_at HR.out HX.out (by simp)]; rfl, hb⟩
      · have b1 : (x1 == s) = false := by simpa using e
        clear e
        go_wp2_with fail
        go_roundg (l.length - (j + 1))
        case rel => exact ⟨j + 1, by simp, by omega, rfl, Pc.clear_next HR.out HX.out b1, hb⟩
        case measure => have := HK.out; omega
    · go_wp2_with fail
      go_ret
      have hj2 : j = l.length := by omega
      subst hj2
      exact ⟨by rw [Pc.clear_all HR.out]; rfl, hb⟩

set_option maxRecDepth 100000 in
set_option maxHeartbeats 2000000 in
theorem rrest_any (v u : Value) (out : List Int) (l : List (Int × Int)) (w : World) (h : SliceIs Rep.int false w 0 w.heap.size v out) (h' : SliceIs Rep.msg false w 0 w.heap.size u l) (hx : out.length ≤ 1000000) :
    Calls Try.prog 18 #[v, u] w fun y w' => (∃ v', y = .returned v' ∧ SliceIs Rep.msg true w' w.heap.size w'.heap.size v' (Hu.rest out l)) ∧ Below w.heap.size w w' := by
  have HI := Lib.hid h'
  obtain ⟨A', c', rfl, _, _, _⟩ := h'
  obtain ⟨A, c, rfl, hl, hm, hA⟩ := h
  have HA := Lib.hid hA; clear hA
  unfold maxLen at hm
  go_enter Try.func18, Try.ntmps18
  go_wp2_with fail
  go_loopg [5, 6] out.length (fun k v i wr => ∃ j : Nat, i = .int .i64 (j : Int) ∧ j ≤ out.length ∧ k = out.length - j ∧ Acc Rep.msg 54 w.heap.size wr v (Hu.rest (out.take j) l) ∧ Below w.heap.size w wr)
  case atStart => exact ⟨0, rfl, by omega, by omega, Acc.empty _ _ _, (Below.refl _ _).alloc (Nat.le_refl _) _⟩
  case round =>
    obtain ⟨j, rfl, hj, hk, ha, hb⟩ := hrel
    have HK := Lib.hid hk; clear hk
    by_cases hlt : j < out.length
    · obtain ⟨x, hx2⟩ := Pc.get_at hlt
      obtain ⟨g, o, rfl, _, hg, c0⟩ := (HA.out.below hb (Nat.le_refl _)).int hx2
      have hst := Hu.rest_take (l := l) hx2
      have HS := Lib.hid hst; clear hst hx2
      have hnl : (Hu.rest (out.take j) l).length ≤ 1000000 := Nat.le_trans (List.length_filter_le _ _) (by rw [Hu.numb_length]; simp; omega)
      have hP := place_any _ l ((j : Int) + 1) wr ((HI.out.below hb (Nat.le_refl _)).widen (Nat.le_refl _) hb.size)
      have HP := Lib.hid hP; clear hP
      go_wp2_with fail
      refine HP.out.mono ?_
      rintro e w1 ⟨rfl, hq⟩
      have hb1 : Below wr.heap.size wr w1 := hq.below
      have c0' : w1.cell? ⟨g, o + j, none⟩ = some (.int .i64 x) := (cell_of_block (by rw [hq.heap])).trans c0
      clear c0
      replace ha := ha.below hb1
      cases hh : Hu.has l ((j : Int) + 1)
      · rw [Hu.place_no hh]
        have hs := HS.out
        rw [hh, if_neg (by simp)] at hs
        have HS2 := Lib.hid hs; clear hs hh HS
        have hb2 := hb.trans (hb1.mono hb.size)
        go_wp2_with (at_builtin; refine wpList_accB (r := Rep.msg) (y := ((j : Int) + 1, x)) rfl (.tmp 19) (.tmp 27) 24 rfl w.heap.size 54 Try.infoMsg Try.underlying24 rfl (by omega) _ rfl ha (fun b h1 h2 => rfl) (Nat.le_refl _) hb2.size 1 _ [.int .i64 ((j : Int) + 1), .int .i64 x] rfl rfl rfl hnl ?_; intro v2 w2 hacc2 hgr2 hb3)
        rw [← HS2.out] at hacc2
        go_roundg (out.length - (j + 1))
        case rel => exact ⟨j + 1, by simp, by omega, rfl, hacc2, hb2.trans hb3⟩
        case measure => have := HK.out; omega
      · obtain ⟨k, hk⟩ := Hu.place_yes hh
        rw [hk]
        have hs := HS.out
        rw [hh, if_pos rfl, List.append_nil] at hs
        rw [← hs] at ha
        clear hs hh HS hk
        go_wp2_with fail
        go_roundg (out.length - (j + 1))
        case rel => exact ⟨j + 1, by simp, by omega, rfl, ha, hb.trans (hb1.mono hb.size)⟩
        case measure => have := HK.out; omega
    · rw [List.take_of_length_le (by omega)] at ha
      have HS := Lib.hid ha.slice; clear ha
      go_wp2_with fail
      go_ret
      exact ⟨⟨_, rfl, HS.out⟩, hb⟩

set_option maxRecDepth 100000 in
set_option maxHeartbeats 4000000 in
theorem rmixed_any (v u : Value) (out : List Int) (l : List (Int × Int)) (w : World) (h : SliceIs Rep.int false w 0 w.heap.size v out) (h' : SliceIs Rep.msg false w 0 w.heap.size u l) (hx : out.length ≤ 1000000) (hwf : ∀ m ∈ l, Wf m.1) :
    Calls Try.prog 20 #[v, u] w fun y w' => y = .returned (.bool (Hu.mixed out l)) ∧ Quiet w w' := by
  have HI := Lib.hid h'
  obtain ⟨A', c', rfl, hl', hm', hA'⟩ := h'
  obtain ⟨A, c, rfl, hl, hm, hA⟩ := h
  have HA := Lib.hid hA; clear hA
  have HA' := Lib.hid hA'; clear hA'
  have HW := Lib.hid hwf; clear hwf
  unfold maxLen at hm hm'
  go_enter Try.func20, Try.ntmps20
  go_wp2_with fail
  go_loopg [5] l.length (fun k i wr => ∃ j : Nat, i = .int .i64 (j : Int) ∧ j ≤ l.length ∧ k = l.length - j ∧ (∀ i, i < j → Hu.first out l i = true) ∧ Quiet w wr)
  case atStart => exact ⟨0, rfl, by omega, by omega, fun i hi => absurd hi (Nat.not_lt_zero _), Quiet.refl _⟩
  case round =>
    obtain ⟨j, rfl, hj, hk, hr, hb⟩ := hrel
    have HR := Lib.hid hr; clear hr
    have HK := Lib.hid hk; clear hk
    by_cases hlt : j < l.length
    · obtain ⟨⟨s, x⟩, hx2⟩ := Pc.get_at hlt
      obtain ⟨g, o, rfl, _, _, c0, c1⟩ := (hb.at_ HA'.out).msg hx2
      dsimp only at c0 c1
      have hgd : l.getD j (0, 0) = (s, x) := by rw [List.getD, hx2]; rfl
      have hfs : Hu.first out l j = (Hu.okAt out (s, x) && decide (Hu.place l s = j)) := by unfold Hu.first; rw [hgd]
      have HF := Lib.hid hfs; clear hfs hx2 hgd
      by_cases h1 : 1 ≤ s
      · obtain ⟨k, rfl⟩ : ∃ k : Nat, s = (k : Int) + 1 := ⟨(s - 1).toNat, by omega⟩
        have q1 : decide ((k : Int) + 1 < 1) = false := decide_eq_false (by omega)
        by_cases h2 : k < out.length
        · obtain ⟨y, hy⟩ := Pc.get_at h2
          obtain ⟨g2, o2, rfl, _, _, d0⟩ := (hb.at_ HA.out).int hy
          have hok : Hu.okAt out ((k : Int) + 1, x) = decide (y = x) := by
            unfold Hu.okAt
            have e1 : (((k : Int) + 1).toNat - 1) = k := by omega
            simp only [e1, List.getD, hy, Option.getD_some]
            rw [decide_eq_true (by omega), decide_eq_true (by omega)]
            simp
            rw [Bool.eq_iff_iff]; simp
          have q2 : decide ((out.length : Int) < (k : Int) + 1) = false := decide_eq_false (by omega)
          by_cases h3 : y = x
          · subst h3
            have b3 : (y != y) = false := by simp
            have hP := fun n => place_any _ l ((k : Int) + 1) (wr.drewN n) (((hb.drewN n).slice HI.out).widen (Nat.le_refl _) (by rw [(hb.drewN n).size]; exact Nat.le_refl _))
            have HP := Lib.hid hP; clear hP
            generalize hz : Hu.place l ((k : Int) + 1) = z at HP HF
            have HZ := Lib.hid hz; clear hz
            by_cases h4 : z = (j : Int)
            · subst h4
              have b4 : ((j : Int) != (j : Int)) = false := by simp
              have hf : Hu.first out l j = true := by rw [HF.out, hok]; simp
              have HF2 := Lib.hid hf; clear hf hok hy HF
              go_wp2_with fail
              go_quiet ((go_at_call 22; exact Calls.quiet_of (HP.out _)))
              go_wp2_with fail
              go_roundg (l.length - (j + 1))
              case rel => exact ⟨j + 1, by simp, by omega, rfl, fun i hi => by
                rcases Nat.lt_succ_iff_lt_or_eq.1 hi with hi | rfl
                · exact HR.out i hi
                · exact HF2.out, hb.drewN _⟩
              case measure => have := HK.out; omega
            · have b4 : (z != (j : Int)) = true := by simpa using h4
              have hf : Hu.first out l j = false := by rw [HF.out]; simp [h4]
              have HF2 := Lib.hid hf; clear hf hok hy HF h4
              go_wp2_with fail
              go_quiet ((go_at_call 22; exact Calls.quiet_of (HP.out _)))
              go_wp2_with fail
              go_ret
              exact ⟨by rw [Hu.mixed_yes hlt HF2.out]; rfl, hb.drewN _⟩
          · have b3 : (y != x) = true := by simpa using h3
            have hf : Hu.first out l j = false := by rw [HF.out, hok]; simp [h3]
            have HF2 := Lib.hid hf; clear hf hok hy HF h3
            go_wp2_with fail
            go_quiet (fail)
            go_wp2_with fail
            go_ret
            exact ⟨by rw [Hu.mixed_yes hlt HF2.out]; rfl, hb.drewN _⟩
        · have q2 : decide ((out.length : Int) < (k : Int) + 1) = true := decide_eq_true (by omega)
          have hf : Hu.first out l j = false := by rw [HF.out]; have : Hu.okAt out ((k : Int) + 1, x) = false := by unfold Hu.okAt; rw [decide_eq_false (p := (k : Int) + 1 ≤ out.length) (by omega)]; simp
                                                   rw [this]; rfl
          have HF2 := Lib.hid hf; clear hf HF
          go_wp2_with fail
          go_quiet (fail)
          go_wp2_with fail
          go_ret
          exact ⟨by rw [Hu.mixed_yes hlt HF2.out]; rfl, hb.drewN _⟩
      · have q1 : decide (s < 1) = true := decide_eq_true (by omega)
        have hf : Hu.first out l j = false := by rw [HF.out]; have : Hu.okAt out (s, x) = false := by unfold Hu.okAt; rw [decide_eq_false (p := 1 ≤ s) h1]; rfl
                                                 rw [this]; rfl
        have HF2 := Lib.hid hf; clear hf HF
        go_wp2_with fail
        go_quiet (fail)
        go_wp2_with fail
        go_ret
        exact ⟨by rw [Hu.mixed_yes hlt HF2.out]; rfl, hb.drewN _⟩
    · go_wp2_with fail
      go_ret
      have hj2 : j = l.length := by omega
      subst hj2
      exact ⟨by rw [Hu.mixed_no HR.out]; rfl, hb⟩
end Go.Proofs.Ytmbilaepeekglaa
