/- cameolaw01.fixed: calls whose answers the document fixes. -/
import Derived.Test.YtlgacmhkkepjfaaA9
namespace Go.Proofs.Ytlgacmhkkepjfaa
open Go.RowKit

theorem getc (bs : Array UInt8) (at_ : Nat) (r : W.Got) (hr : W.rd (bs.toList.drop at_) 0 0 = r) (h : at_ ≤ bs.size) (h2 : bs.size ≤ 1000000000) (w : World) :
    Calls Try.prog 12 #[.string ⟨bs⟩, .int .i64 at_] w fun x w' => x = getEnd at_ r ∧ Below w.heap.size w w' := by
  subst hr; exact get_any ⟨bs⟩ at_ w h2 h
theorem takec (bs : Array UInt8) (top : Int) (r : W.Took) (hr : W.take bs.toList top = r) (h2 : bs.size ≤ 1000000000) (w : World) :
    Calls Try.prog 14 #[.string ⟨bs⟩, .int .i64 0, .int .i64 top] w fun x w' => x = TakeEnd 0 r ∧ Below w.heap.size w w' := by
  subst hr; exact take_any ⟨bs⟩ 0 top w h2 (Nat.zero_le _)
theorem allc (bs : Array UInt8) (l : List Nat) (hr : W.all bs.toList = .ok l) (h2 : bs.size ≤ 1000000000) (w : World) :
    Calls Try.prog 17 #[.string ⟨bs⟩] w fun x w' => (∃ v, x = .returned (.tuple #[v, .int .i64 0]) ∧ w'.ownsRow w.heap.size 3 1 v l.length (i64s l)) ∧ Below w.heap.size w w' := by
  have h := all_any ⟨bs⟩ w h2
  rw [hr] at h; exact h
theorem putc (n : Int) (l : List UInt8) (h : W.put n = l) (w : World) : Calls Try.prog 11 #[.int .i64 n] w fun x w' => x = .returned (.string ⟨l.toArray⟩) ∧ Below w.heap.size w w' := by
  subst h; exact put_any n w
theorem textc (bs : Array UInt8) (l : List UInt8) (h : W.text bs.toList = l) (h2 : bs.size ≤ 1000000000) (w : World) : Calls Try.prog 15 #[.string ⟨bs⟩] w fun x w' => x = .returned (.string ⟨l.toArray⟩) ∧ Below w.heap.size w w' := by
  subst h; exact text_any ⟨bs⟩ w h2

theorem isInts_of_own {w : World} {base : Nat} {v : Value} {l : List Nat} (h : w.ownsRow base 3 1 v l.length (i64s l)) : IsInts w w.heap.size v (l.map (fun (n : Nat) => (n : Int))) := by
  rcases h.2 with ⟨rfl, h0⟩ | ⟨g, cap, cur, rfl, _, hh, hnc, hm, hsz, htake⟩
  · have : l = [] := List.eq_nil_of_length_eq_zero h0
    subst this
    exact ⟨none, 0, rfl, by simp, by unfold maxLen; omega, fun h => absurd rfl h⟩
  · refine ⟨some ⟨g, 0, none⟩, cap, by simp, by simpa using hnc, hm, fun _ => ⟨g, 0, rfl, lt_of_block hh, fun k hk => ?_⟩⟩
    simp at hk
    have h1 := h.cells (g := g) rfl k (.int .i64 ((l.getD k 0 : Nat) : Int)) (by simp [i64s, hk])
    rw [Addr.add_lit] at h1
    rw [h1]
    simp [hk]

theorem isInts_lit (w : World) (xs : List Int) (hm : xs.length ≤ maxLen) : IsInts (w.alloc (.cells (xs.map (Value.int .i64)).toArray 3)) (w.heap.size + 1) (.slice (some ⟨w.heap.size, 0, none⟩) xs.length xs.length) xs := by
  refine ⟨_, _, rfl, Nat.le_refl _, hm, fun _ => ⟨_, _, rfl, Nat.lt_succ_self _, fun k hk => ?_⟩⟩
  rw [cell_of_row _ _ _ _ _ _ (heap_alloc_new w _)]
  simp [hk]

set_option maxRecDepth 100000 in
set_option maxHeartbeats 2000000 in
theorem fixed_any (w : World) : Calls Try.prog 13 #[] w fun x w' => x = .returned (.bool true) ∧ Below w.heap.size w w' := by
  have n1 : ((0 : Int) == 0) = true := rfl
  go_enter Try.func13, Try.ntmps13
  simp only [List.append_eq, List.cons_append, List.nil_append]
  go_wp2_with fail
  refine (getc #[120, 172, 2, 121] 1 (.ok 300 2) (by decide) (by decide) (by decide) _).mono ?_
  rintro y w1 ⟨rfl, hb1⟩
  have bb1 := hb1; clear hb1
  simp only [getEnd]
  go_wp2_with fail
  refine (getc #[128, 0] 0 (.bad 4) (by decide) (by decide) (by decide) _).mono ?_
  rintro y w2 ⟨rfl, hb2⟩
  have bb2 := bb1.trans (hb2.mono bb1.size); clear bb1 hb2
  simp only [getEnd]
  go_wp2_with fail
  refine (getc #[128] 0 (.bad 5) (by decide) (by decide) (by decide) _).mono ?_
  rintro y w3 ⟨rfl, hb3⟩
  have bb3 := bb2.trans (hb3.mono bb2.size); clear bb2 hb3
  simp only [getEnd]
  go_wp2_with fail
  refine (getc #[255, 255, 255, 255, 8] 0 (.bad 2) (by decide) (by decide) (by decide) _).mono ?_
  rintro y w4 ⟨rfl, hb4⟩
  have bb4 := bb3.trans (hb4.mono bb3.size); clear bb3 hb4
  simp only [getEnd]
  go_wp2_with fail
  refine (getc #[255, 255, 255, 255, 135] 0 (.bad 2) (by decide) (by decide) (by decide) _).mono ?_
  rintro y w5 ⟨rfl, hb5⟩
  have bb5 := bb4.trans (hb5.mono bb4.size); clear bb4 hb5
  simp only [getEnd]
  go_wp2_with fail
  refine (getc #[255, 255, 255, 255, 7] 0 (.ok 2147483647 5) (by decide) (by decide) (by decide) _).mono ?_
  rintro y w6 ⟨rfl, hb6⟩
  have bb6 := bb5.trans (hb6.mono bb5.size); clear bb5 hb6
  simp only [getEnd]
  go_wp2_with fail
  refine (get_bad ⟨#[]⟩ 1 _ (by decide)).mono ?_
  rintro y w7 ⟨rfl, hb7⟩
  have bb7 := bb6.trans (hb7.mono bb6.size); clear bb6 hb7
  go_wp2_with fail
  refine (allc #[5, 172, 2, 0] [5, 300, 0] (by decide) (by decide) _).mono ?_
  rintro y w8 ⟨⟨v0, rfl, own8⟩, hb8⟩
  have bb8 := bb7.trans (hb8.mono bb7.size); clear bb7 hb8
  go_wp2_with fail
  refine (takec #[2, 97, 98, 99] 2 (.ok [97, 98] 3) (by decide) (by decide) _).mono ?_
  rintro y w9 ⟨rfl, hb9⟩
  have own9 := own_below own8 hb9; clear own8
  have bb9 := bb8.trans (hb9.mono bb8.size); clear bb8 hb9
  simp only [TakeEnd]
  go_wp2_with fail
  refine (takec #[2, 97, 98, 99] 1 (.bad 2) (by decide) (by decide) _).mono ?_
  rintro y w10 ⟨rfl, hb10⟩
  have own10 := own_below own9 hb10; clear own9
  have bb10 := bb9.trans (hb10.mono bb9.size); clear bb9 hb10
  simp only [TakeEnd]
  go_wp2_with fail
  refine (takec #[4, 97, 98, 99] 9 (.bad 5) (by decide) (by decide) _).mono ?_
  rintro y w11 ⟨rfl, hb11⟩
  have own11 := own_below own10 hb11; clear own10
  have bb11 := bb10.trans (hb11.mono bb10.size); clear bb10 hb11
  simp only [TakeEnd]
  go_wp2_with fail
  refine (putc 5 [5] (by decide) _).mono ?_
  rintro y w12 ⟨rfl, hb12⟩
  have own12 := own_below own11 hb12; clear own11
  have bb12 := bb11.trans (hb12.mono bb11.size); clear bb11 hb12
  go_wp2_with fail
  refine (putc 300 [172, 2] (by decide) _).mono ?_
  rintro y w13 ⟨rfl, hb13⟩
  have own13 := own_below own12 hb13; clear own12
  have bb13 := bb12.trans (hb13.mono bb12.size); clear bb12 hb13
  go_wp2_with fail
  refine (putc (-4) [0] (by decide) _).mono ?_
  rintro y w14 ⟨rfl, hb14⟩
  have own14 := own_below own13 hb14; clear own13
  have bb14 := bb13.trans (hb14.mono bb13.size); clear bb13 hb14
  go_wp2_with fail
  refine (putc 2147483648 [255, 255, 255, 255, 7] (by decide) _).mono ?_
  rintro y w15 ⟨rfl, hb15⟩
  have own15 := own_below own14 hb15; clear own14
  have bb15 := bb14.trans (hb15.mono bb14.size); clear bb14 hb15
  go_wp2_with fail
  have i1 := ((isInts_of_own own15).keep (w' := w15.alloc (.cells ([5, 300, 0].map (Value.int .i64)).toArray 3)) ((Below.refl _ _).alloc (Nat.le_refl _) _)).up (B' := w15.heap.size + 1) (by omega)
  have i2 := isInts_lit w15 [5, 300, 0] (by unfold maxLen; decide)
  refine (ints_any _ _ _ _ _ (by simpa using i1) (by simpa using i2) (by decide) (by decide)).mono ?_
  rintro y w16 ⟨rfl, hb16⟩; clear i1 i2 own15
  have bb16 := (bb15.alloc bb15.size _).trans (hb16.mono (by have := bb15.size; simp; omega)); clear bb15 hb16
  have d1 : decide (([5, 300, 0] : List Int) = [5, 300, 0]) = true := by decide
  go_wp2_with fail
  refine (textc #[97, 98] [2, 97, 98] (by decide) (by decide) _).mono ?_
  rintro y w17 ⟨rfl, hb17⟩
  have bb17 := bb16.trans (hb17.mono bb16.size); clear bb16 hb17
  go_wp2_with fail
  go_ret
  exact ⟨rfl, bb17⟩
end Go.Proofs.Ytlgacmhkkepjfaa
