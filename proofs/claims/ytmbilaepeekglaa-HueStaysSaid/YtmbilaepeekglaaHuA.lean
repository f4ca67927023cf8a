/- hue.times: how often each number was got, as a map of the call's own. -/
import Derived.Test.YtmbilaepeekglaaHX
import Derived.Test.YtmbilaepeekglaaHuLaw
import Derived.Test.YtmbilaepeekglaaPC
import Derived.Maps.OwnOps
import Derived.Maps.OwnSet
import Derived.Maps.Views
namespace Go.Proofs.Ytmbilaepeekglaa
open Go.RowKit Go.Maps

theorem lawInt : Keyed Try.prog 3 := int_keyed Try.underlying3
theorem zeroInt (w : World) : (zeroValue 3).run Try.prog w = .ok (.int .i64 0) w := by kernel_rfl
/-- A number that a machine word holds. -/
def Wf (n : Int) : Prop := (Lit.int .i64 n).wf = true
theorem wf_of {n : Int} (h : -9223372036854775808 ≤ n) (h' : n ≤ 9223372036854775807) : Wf n := by
  unfold Wf Lit.wf; rw [Bool.and_eq_true]; exact ⟨decide_eq_true h, decide_eq_true h'⟩
/-- Block b is a map that counts the numbers of xs. -/
def CntIs (w : World) (b : Nat) (xs : List (Int × Int)) : Prop :=
  ∃ (D : DataW Unit) (n : Nat), w.ownsMap Try.prog 3 (plainElem Try.prog 3) b n D ∧ n ≤ xs.length ∧ ∀ s, D.atKey (.int .i64 s) (.lit (.int .i64 0)) = .lit (.int .i64 (Hu.cnt xs s))
theorem CntIs.next {w w' : World} {b : Nat} {xs : List (Int × Int)} (h : CntIs w b xs) (hb : Below w.heap.size w w') : CntIs w' b xs := by
  obtain ⟨D, n, h1, h2, h3⟩ := h
  have := h1.lt
  exact ⟨D, n, h1.kept (row := none) ⟨hb.os, hb.tape, hb.output, hb.size, fun i hi _ => hb.block i hi⟩ (by simp), h2, h3⟩
theorem CntIs.lt {w : World} {b : Nat} {xs : List (Int × Int)} (h : CntIs w b xs) : b < w.heap.size := by
  obtain ⟨D, n, h1, h2, h3⟩ := h; exact h1.lt
theorem CntIs.made (w : World) : CntIs (w.alloc (.map #[] 0)) w.heap.size [] := ⟨_, 0, World.ownsMap_made _ _ _ _, by simp, fun s => rfl⟩
theorem cnt_snoc (xs : List (Int × Int)) (m : Int × Int) (s : Int) : Hu.cnt (xs ++ [m]) s = Hu.cnt xs s + if m.1 = s then 1 else 0 := by
  unfold Hu.cnt
  rw [List.countP_append, List.countP_cons, List.countP_nil]
  simp only [beq_iff_eq, Nat.zero_add]
theorem cnt_le (xs : List (Int × Int)) (s : Int) : Hu.cnt xs s ≤ xs.length := List.countP_le_length
theorem CntIs.step {w w1 : World} {b : Nat} {xs : List (Int × Int)} {m : Int × Int} {D : DataW Unit} {n : Nat} {c : Int} (hown : w.ownsMap Try.prog 3 (plainElem Try.prog 3) b n D) (hn : n ≤ xs.length) (hx : xs.length ≤ 1000000)
    (hD : ∀ s, D.atKey (.int .i64 s) (.lit (.int .i64 0)) = .lit (.int .i64 (Hu.cnt xs s))) (hc : D.atKey (.int .i64 m.1) (.lit (.int .i64 0)) = .lit (.int .i64 c))
    (h1 : w1.ownsMap Try.prog 3 (plainElem Try.prog 3) b (n + 1) (D.put (.int .i64 m.1) (.lit (.int .i64 (wrap64 (c + 1)))))) : CntIs w1 b (xs ++ [m]) := by
  refine ⟨_, n + 1, h1, by simp; omega, fun s => ?_⟩
  have hm := hown.isMap
  by_cases hs : m.1 = s
  · subst hs
    rw [Go.Maps.atKey_put_same (k := .int .i64 m.1) hm trivial]
    rw [hD] at hc
    injection hc with hc; injection hc with _ hc
    have := cnt_le xs m.1
    rw [cnt_snoc, if_pos rfl, ← hc, IntWalk.wrap64_in _ (by omega)]
    rfl
  · rw [Go.Maps.atKey_put_other (by intro e; injection e with _ e; exact hs e.symm), hD, cnt_snoc, if_neg hs]; rfl

set_option maxRecDepth 100000 in
set_option maxHeartbeats 2000000 in
theorem times_any (v : Value) (xs : List (Int × Int)) (w : World) (h : SliceIs Rep.msg false w 0 w.heap.size v xs) (hx : xs.length ≤ 1000000) (hwf : ∀ m ∈ xs, Wf m.1) : Calls Try.prog 27 #[v] w
    fun y w' => (∃ b, y = .returned (.map (some b)) ∧ w.heap.size ≤ b ∧ CntIs w' b xs) ∧ Below w.heap.size w w' := by
  have hmm := @run_makeMap Try.prog
  obtain ⟨A, c, rfl, hl, hm, hA⟩ := h
  have HA := Lib.hid hA; clear hA
  have HW := Lib.hid hwf; clear hwf
  go_enter Try.func27, Try.ntmps27
  go_wp2_with fail
  go_loopg [9] xs.length (fun k i wr => ∃ j : Nat, i = .int .i64 (j : Int) ∧ j ≤ xs.length ∧ k = xs.length - j ∧ CntIs wr w.heap.size (xs.take j) ∧ Below w.heap.size w wr)
  case atStart => exact ⟨0, rfl, by omega, by omega, CntIs.made w, (Below.refl _ _).alloc (Nat.le_refl _) _⟩
  case round =>
    obtain ⟨j, rfl, hj, hk, hcnt, hb⟩ := hrel
    have HK := Lib.hid hk; clear hk
    by_cases hlt : j < xs.length
    · obtain ⟨m, hm⟩ := Pc.get_at hlt
      obtain ⟨g, o, rfl, _, hg, c0, c1⟩ := (HA.out.below hb (Nat.le_refl _)).msg hm
      have hw := HW.out m (List.mem_of_getElem? hm)
      have htn := Pc.take_next hm
      have HM := Lib.hid hm; clear hm
      have HTN := Lib.hid htn; clear htn
      have hkey : keyOf Try.prog 3 (.int .i64 m.1) = some (.int .i64 m.1) := keyOf_int_mk Try.underlying3 hw
      obtain ⟨D, n, hown, hn, hD⟩ := hcnt
      have hb2 : Below wr.heap.size wr (wr.alloc (.cells #[.int .i64 m.1, .int .i64 m.2] 54)) := (Below.refl _ _).alloc (Nat.le_refl _) _
      have hown2 := hown.kept (row := none) ⟨hb2.os, hb2.tape, hb2.output, hb2.size, fun i hi _ => hb2.block i hi⟩ (by simp)
      have HD := Lib.hid hD; clear hD
      have hn2 : n ≤ 1000000 := by simp at hn; omega
      go_wp2_with (first
        | (at_lookup; refine wpList_lookup_own_int _ rfl _ _ 64 rfl 3 3 .i64 lawInt Try.underlying64 Try.underlying3 (zeroInt _) w.heap.size n D rfl hown2 _ _ rfl hkey ?_; intro c hat hwc)
        | (at_mapUpdate; refine wpList_mapUpdate_own _ rfl _ _ _ 64 rfl 3 3 lawInt Try.underlying64 _ w.heap.size n D rfl hown2 (by unfold maxLen; omega) _ _ _ rfl rfl hkey _ [] (plainElem_int Try.underlying3 (wrap64_wf _)) ?_; intro w1 hown1 hgrow1)
        | go_in)
      have hst := CntIs.step (xs := xs.take j) hown2 hn (by simp; omega) HD.out hat hown1
      rw [← HTN.out] at hst
      have hb3 : Below w.heap.size w w1 := (hb.trans (hb2.mono hb.size)).grown hgrow1 (Nat.le_trans hb.size hb2.size) (fun j hj => by cases hj; exact Nat.le_refl _)
      clear hat hown hown2 hown1 hgrow1 HD HTN
      go_roundg (xs.length - (j + 1))
      case rel => exact ⟨j + 1, by simp, by omega, rfl, hst, hb3⟩
      case measure => have := HK.out; omega
    · rw [List.take_of_length_le (by omega)] at hcnt
      go_wp2_with fail
      go_ret
      exact ⟨⟨_, rfl, Nat.le_refl _, hcnt⟩, hb⟩
end Go.Proofs.Ytmbilaepeekglaa
