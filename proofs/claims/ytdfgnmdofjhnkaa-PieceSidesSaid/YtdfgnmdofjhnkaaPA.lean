/- piece.within, piece.rising, slices.ContainsFunc over numbers. -/
import Derived.Test.YtdfgnmdofjhnkaaProg
import Derived.Test.YtdfgnmdofjhnkaaA6
import Derived.Test.YtdfgnmdofjhnkaaRep
import Derived.Test.YtdfgnmdofjhnkaaPLaw
namespace Go.Proofs.Ytdfgnmdofjhnkaa
open Go.RowKit

theorem pwithin_any (n m : Int) (w : World) : Calls Try.prog 56 #[.int .i64 n, .int .i64 m] w fun x w' => x = .returned (.bool (Pc.within n 0 m)) ∧ w = w' := by
  generalize hb : Pc.within n 0 m = b
  have HB := Lib.hid hb; clear hb
  by_cases h0 : 0 ≤ n
  · by_cases h1 : n ≤ m
    · go_enter Try.func56, Try.ntmps56
      go_wp2_with fail
      go_ret
      exact ⟨by rw [← HB.out, Pc.within_yes ⟨h0, h1⟩]; rfl, rfl⟩
    · go_enter Try.func56, Try.ntmps56
      go_wp2_with fail
      go_ret
      exact ⟨by rw [← HB.out, Pc.within_no (by omega)]; rfl, rfl⟩
  · go_enter Try.func56, Try.ntmps56
    go_wp2_with fail
    go_ret
    exact ⟨by rw [← HB.out, Pc.within_no (by omega)]; rfl, rfl⟩
theorem pwithin_yes (n m : Int) (h : 0 ≤ n ∧ n ≤ m) (w : World) : Calls Try.prog 56 #[.int .i64 n, .int .i64 m] w fun x w' => x = .returned (.bool true) ∧ w = w' := by
  have := pwithin_any n m w; rwa [Pc.within_yes h] at this
theorem pwithin_no (n m : Int) (h : ¬ (0 ≤ n ∧ n ≤ m)) (w : World) : Calls Try.prog 56 #[.int .i64 n, .int .i64 m] w fun x w' => x = .returned (.bool false) ∧ w = w' := by
  have := pwithin_any n m w; rwa [Pc.within_no h] at this

def RisRel (ms : List (Int × Int)) (w : World) (k : Nat) (last i : Value) (wr : World) : Prop :=
  ∃ (j : Nat) (lv : Int), i = .int .i64 (j : Int) ∧ j ≤ ms.length ∧ k = ms.length - j ∧ last = .int .i64 lv ∧ Pc.rising 0 ms = Pc.rising lv (ms.drop j) ∧ Below w.heap.size w wr

set_option maxRecDepth 100000 in
set_option maxHeartbeats 1000000 in
theorem rising_any (v : Value) (ms : List (Int × Int)) (w : World) (h : SliceIs Rep.msg false w 0 w.heap.size v ms) : Calls Try.prog 57 #[v] w
    fun x w' => x = .returned (.bool (Pc.rising 0 ms)) ∧ Below w.heap.size w w' := by
  obtain ⟨A, c, rfl, hl, hm, hA⟩ := h
  unfold maxLen at hm
  go_enter Try.func57, Try.ntmps57
  go_wp2_with fail
  go_loopg [3, 5, 8] ms.length (fun k last _ i wr => RisRel ms w k last i wr)
  case atStart => exact ⟨0, 0, rfl, by omega, by omega, rfl, rfl, Below.refl _ _⟩
  case round =>
    obtain ⟨j, lv, rfl, hj, hk, rfl, hr, hb⟩ := hrel
    have HR := Lib.hid hr; clear hr
    have HK := Lib.hid hk; clear hk
    by_cases hlt : j < ms.length
    · obtain ⟨⟨s, l⟩, hx⟩ := Pc.get_at hlt
      obtain ⟨g, o, rfl, _, hg, c0, c1⟩ := (hA.below hb (Nat.le_refl _)).msg hx
      rw [Pc.drop_at hx] at HR
      have HX := Lib.hid hx; clear hx
      dsimp only at c0 c1
      clear hA
      by_cases q1 : lv < s
      · by_cases q2 : s ≤ 500
        · by_cases q3 : 0 ≤ l ∧ l ≤ 3
          · go_wp2_with fail
            refine (pwithin_yes _ _ q3 _).mono ?_
            rintro e w1 ⟨rfl, rfl⟩
            go_wp2_with fail
            go_roundg (ms.length - (j + 1))
            case rel => exact ⟨j + 1, s, by simp, by omega, rfl, rfl, by rw [HR.out, Pc.rising_yes ⟨q1, q2, q3⟩], hb.alloc hb.size _⟩
            case measure => have := HK.out; omega
          · go_wp2_with fail
            refine (pwithin_no _ _ q3 _).mono ?_
            rintro e w1 ⟨rfl, rfl⟩
            go_wp2_with fail
            go_ret
            exact ⟨by rw [HR.out, Pc.rising_no (fun h => q3 h.2.2)]; rfl, hb.alloc hb.size _⟩
        · go_wp2_with fail
          go_ret
          exact ⟨by rw [HR.out, Pc.rising_no (by dsimp only; omega)]; rfl, hb.alloc hb.size _⟩
      · go_wp2_with fail
        go_ret
        exact ⟨by rw [HR.out, Pc.rising_no (by dsimp only; omega)]; rfl, hb.alloc hb.size _⟩
    · go_wp2_with fail
      go_ret
      exact ⟨by rw [HR.out, List.drop_eq_nil_of_le (by omega)]; rfl, hb⟩

set_option maxRecDepth 100000 in
set_option maxHeartbeats 1000000 in
theorem indexInts_any (F : Nat) (hE : ∀ (args : Array Value) (w : World), (callFunc F args).run Try.prog w = .ok (.enter F args) w) (b : Int → Bool) (hF : ∀ n w, Calls Try.prog F #[.int .i64 n] w fun x w' => x = .returned (.bool (b n)) ∧ w = w') (v : Value) (xs : List Int) (w : World) (h : SliceIs Rep.int false w 0 w.heap.size v xs) :
    Calls Try.prog 92 #[v, .func (.func F) #[] #[]] w fun x w' => x = .returned (.int .i64 (Pc.idx b xs)) ∧ Below w.heap.size w w' := by
  obtain ⟨A, c, rfl, hl, hm, hA⟩ := h
  unfold maxLen at hm
  have HF := Lib.hid hF; clear hF
  go_enter Try.func92, Try.ntmps92
  go_wp2_with fail
  go_loopg [5, 8] xs.length (fun k _ i wr => ∃ j : Nat, i = .int .i64 (j : Int) ∧ j ≤ xs.length ∧ k = xs.length - j ∧ Pc.clear b xs j ∧ Below w.heap.size w wr)
  case atStart => exact ⟨0, rfl, by omega, by omega, Pc.clear_zero _ _, Below.refl _ _⟩
  case round =>
    obtain ⟨j, rfl, hj, hk, hr, hb⟩ := hrel
    have HR := Lib.hid hr; clear hr
    have HK := Lib.hid hk; clear hk
    by_cases hlt : j < xs.length
    · obtain ⟨x, hx⟩ := Pc.get_at hlt
      obtain ⟨g, o, rfl, _, hg, c0⟩ := (hA.below hb (Nat.le_refl _)).int hx
      have HX := Lib.hid hx; clear hx
      clear hA
      go_wp2_with fail
      refine (HF.out _ _).mono ?_
      rintro e w1 ⟨rfl, rfl⟩
      cases hbx : b x
      · have HB := Lib.hid hbx; clear hbx
        go_wp2_with fail
        go_roundg (xs.length - (j + 1))
        case rel => exact ⟨j + 1, by simp, by omega, rfl, Pc.clear_next HR.out HX.out HB.out, hb⟩
        case measure => have := HK.out; omega
      · have HB := Lib.hid hbx; clear hbx
        go_wp2_with fail
        go_ret
        exact ⟨by rw [Pc.clear_at HR.out HX.out HB.out]; rfl, hb⟩
    · go_wp2_with fail
      go_ret
      have hj2 : j = xs.length := by omega
      subst hj2
      exact ⟨by rw [Pc.clear_all HR.out]; rfl, hb⟩

set_option maxRecDepth 100000 in
theorem containsInts_any (F : Nat) (hE : ∀ (args : Array Value) (w : World), (callFunc F args).run Try.prog w = .ok (.enter F args) w) (b : Int → Bool) (hF : ∀ n w, Calls Try.prog F #[.int .i64 n] w fun x w' => x = .returned (.bool (b n)) ∧ w = w') (v : Value) (xs : List Int) (w : World) (h : SliceIs Rep.int false w 0 w.heap.size v xs) :
    Calls Try.prog 59 #[v, .func (.func F) #[] #[]] w fun x w' => x = .returned (.bool (xs.any b)) ∧ Below w.heap.size w w' := by
  have hi := fun w h => indexInts_any F hE b hF v xs w h
  have hg := Pc.idx_ge b xs
  generalize Pc.idx b xs = i at hi hg
  have HI := Lib.hid hi; clear hi
  rw [← hg.2]
  clear hg
  go_enter Try.func59, Try.ntmps59
  go_wp2_with fail
  refine (HI.out _ h).mono ?_
  rintro e w1 ⟨rfl, hb⟩
  go_wp2_with fail
  go_ret
  exact ⟨rfl, hb⟩
end Go.Proofs.Ytdfgnmdofjhnkaa
