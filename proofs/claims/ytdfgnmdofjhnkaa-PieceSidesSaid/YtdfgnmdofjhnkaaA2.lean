/- word.read$1 (the closure), word.read -/
import Derived.Test.YtdfgnmdofjhnkaaA1
namespace Go.Proofs.Ytdfgnmdofjhnkaa
open Go.RowKit

/-- The four cells of a reading: the bytes, the place, what is read, how many. -/
structure RdMem (B : Nat) (s : ByteArray) (at_ n i : Int) (w : World) : Prop where
  s : w.heap[B]? = some (.cells #[.string s] 9 (0, 0))
  at_ : w.heap[B + 1]? = some (.cells #[.int .i64 at_] 3 (0, 0))
  n : w.heap[B + 2]? = some (.cells #[.int .i64 n] 3 (0, 0))
  i : w.heap[B + 3]? = some (.cells #[.int .i64 i] 3 (0, 0))

def stopV (e : Int) : List PanicEntry := [{ v := .iface 128 (.agg #[.int .i64 e]), recovered := false }]

theorem RdMem.step {B : Nat} {s : ByteArray} {at_ n i : Int} {w : World} (h : RdMem B s at_ n i w) (n' i' : Int) :
    RdMem B s at_ n' i' ((w.setCell ⟨B + 2, 0, none⟩ (.int .i64 n')).setCell ⟨B + 3, 0, none⟩ (.int .i64 i')).drew := by
  refine ⟨?_, ?_, ?_, ?_⟩
  · show ((w.setCell _ _).setCell _ _).heap[B]? = _
    rw [heap_setCell_other _ _ _ _ (by simp), heap_setCell_other _ _ _ _ (by simp)]; exact h.s
  · show ((w.setCell _ _).setCell _ _).heap[B + 1]? = _
    rw [heap_setCell_other _ _ _ _ (by simp), heap_setCell_other _ _ _ _ (by simp)]; exact h.at_
  · show ((w.setCell _ _).setCell _ _).heap[B + 2]? = _
    rw [heap_setCell_other _ _ _ _ (by simp)]; exact one_setCell h.n
  · show ((w.setCell _ _).setCell _ _).heap[B + 3]? = _
    exact one_setCell ((heap_setCell_other _ _ _ _ (by simp)).trans h.i)

theorem shl_val (x n i : Nat) (hi : i < 5) (hn : n ≤ 2147483647) (_hx : x < 256) : wrap64 ((n : Int) + wrap64 ((x : Int) % 128 * 2 ^ (7 * i))) = ((n + x % 128 * 128 ^ i : Nat) : Int) := by
  have h5 : i = 0 ∨ i = 1 ∨ i = 2 ∨ i = 3 ∨ i = 4 := by omega
  rcases h5 with rfl | rfl | rfl | rfl | rfl <;> simp only [Nat.mul_zero, Nat.reduceMul, Int.reducePow, Nat.reducePow, Int.pow_zero, Nat.pow_zero] <;> (rw [IntWalk.wrap64_in (_ * _) (by omega), IntWalk.wrap64_in _ (by omega)]; omega)

set_option maxRecDepth 100000 in
set_option maxHeartbeats 400000 in
theorem next_no (B : Nat) (s : ByteArray) (at_ i n : Nat) (w : World) (h : RdMem B s at_ n i w) (hat : at_ ≤ s.size) (hi : i < 5) (hs : s.size ≤ 1000000000) (hend : ¬ at_ + i < s.size) :
    Calls Try.prog 103 #[.pointer (some ⟨B + 1, 0, none⟩), .pointer (some ⟨B + 3, 0, none⟩), .pointer (some ⟨B, 0, none⟩), .pointer (some ⟨B + 2, 0, none⟩)] w
      fun x w' => x = .panicked (stopV 5) ∧ w = w' := by
  have c0 := cell_of_one h.s
  have c1 := cell_of_one h.at_
  have c3 := cell_of_one h.i
  have c2 := cell_of_one h.n
  have f2 := free_of_one h.n
  have f3 := free_of_one h.i
  clear h
  go_enter Try.func103, Try.ntmps103
  go_wp2_with fail
  refine (must_not _ (by simp; omega) 5 _).mono ?_
  rintro e w' ⟨rfl, rfl⟩
  exact ⟨rfl, rfl, rfl⟩

set_option maxRecDepth 100000 in
set_option maxHeartbeats 400000 in
theorem next_yes (B : Nat) (s : ByteArray) (at_ i n : Nat) (w : World) (h : RdMem B s at_ n i w) (hat : at_ ≤ s.size) (hi : i < 5) (hn : n ≤ 2147483647) (hs : s.size ≤ 1000000000) (hend : at_ + i < s.size) (x m : Nat) (hx : x = s[at_ + i].toNat) (hm : m = n + x % 128 * 128 ^ i) :
    Calls Try.prog 103 #[.pointer (some ⟨B + 1, 0, none⟩), .pointer (some ⟨B + 3, 0, none⟩), .pointer (some ⟨B, 0, none⟩), .pointer (some ⟨B + 2, 0, none⟩)] w
      fun y w' => y = .returned (.int .u8 x) ∧ RdMem B s at_ m ((i : Int) + 1) w' ∧ Below B w w' := by
  have c0 := cell_of_one h.s
  have c1 := cell_of_one h.at_
  have c3 := cell_of_one h.i
  have c2 := cell_of_one h.n
  have f2 := free_of_one h.n
  have f3 := free_of_one h.i
  have HX := Lib.hid hx; clear hx
  have HM := Lib.hid hm; clear hm
  go_enter Try.func103, Try.ntmps103
  go_wp2_with fail
  refine (must_so _ (by simp; omega) 5 _).mono ?_
  rintro e w' ⟨rfl, rfl⟩
  go_wp2_with fail
  go_region
  go_wp2_with fail
  go_ret
  rw [shl_val _ n i hi hn (UInt8.toNat_lt _), ← HX.out, ← HM.out]
  exact ⟨rfl, h.step _ _, ((((Below.refl B w).setCell (by simp) _).setCell (by simp) _)).drew⟩

/-- How a reading ends. -/
def rdEnd (at_ : Nat) : W.Got → Ending
  | .bad e => .panicked (stopV e)
  | .ok n i => .returned (.tuple #[.int .i64 n, .int .i64 ((at_ : Int) + (i : Int))])

def RdRel (l : List UInt8) (w : World) (s : ByteArray) (at_ : Nat) (k : Nat) (wr : World) : Prop :=
  ∃ i n : Nat, i < 5 ∧ k = 5 - i ∧ n ≤ 2147483647 ∧ RdMem w.heap.size s at_ n i wr ∧ Below w.heap.size w wr ∧ w.heap.size + 4 ≤ wr.heap.size ∧ W.rd (l.drop i) i n = W.rd l 0 0

theorem below_2 (w : World) (o o' : Obj) : Below w.heap.size w ((w.alloc o).alloc o') := ((Below.refl _ _).alloc (Nat.le_refl _) o).alloc (by simp) o'

theorem read_bad (s : ByteArray) (at_ : Int) (w : World) (h : ¬ (0 ≤ at_ ∧ at_ ≤ s.size)) : Calls Try.prog 91 #[.string s, .int .i64 at_] w fun x w' => x = .panicked (stopV 1) ∧ Below w.heap.size w w' := by
  by_cases h0 : 0 ≤ at_
  · have h1 : ¬ at_ ≤ s.size := by omega
    clear h
    go_enter Try.func91, Try.ntmps91
    go_wp2_with fail
    refine (must_no 1 _).mono ?_
    rintro e w' ⟨rfl, rfl⟩
    exact ⟨rfl, rfl, below_2 _ _ _⟩
  · clear h
    go_enter Try.func91, Try.ntmps91
    go_wp2_with fail
    refine (must_no 1 _).mono ?_
    rintro e w' ⟨rfl, rfl⟩
    exact ⟨rfl, rfl, below_2 _ _ _⟩

theorem rd_cons {s : ByteArray} {at_ i : Nat} {l : List UInt8} (hend : at_ + i < s.size) (hl : s.data.toList.drop at_ = l) : l.drop i = s[at_ + i] :: l.drop (i + 1) := by
  subst hl
  rw [List.drop_drop, List.drop_drop, List.drop_eq_getElem_cons (by simpa using hend)]
  congr 1

theorem rd_nil {s : ByteArray} {at_ i : Nat} {l : List UInt8} (hend : ¬ at_ + i < s.size) (hl : s.data.toList.drop at_ = l) : l.drop i = [] := by
  subst hl
  rw [List.drop_drop]
  apply List.drop_eq_nil_of_le
  have : s.data.toList.length = s.size := by simp
  omega

theorem rd_start (l : List UInt8) (w : World) (s : ByteArray) (at_ : Nat) : RdRel l w s at_ 5 ((((w.alloc (.cells #[.string s] 9)).alloc (.cells #[.int .i64 at_] 3)).alloc (.cells #[.int .i64 0] 3)).alloc (.cells #[.int .i64 0] 3)) := by
  refine ⟨0, 0, by omega, rfl, by omega, ⟨?_, ?_, ?_, ?_⟩, ((below_2 _ _ _).alloc (by simp; omega) _).alloc (by simp; omega) _, by simp, by simp⟩
  · rw [heap_alloc_old _ _ (by simp; omega), heap_alloc_old _ _ (by simp; omega), heap_alloc_old _ _ (by simp)]; exact heap_alloc_new _ _
  · rw [heap_alloc_old _ _ (by simp), heap_alloc_old _ _ (by simp)]; have := heap_alloc_new (w.alloc (.cells #[.string s] 9)) (.cells #[.int .i64 at_] 3); simpa using this
  · rw [heap_alloc_old _ _ (by simp)]; have := heap_alloc_new ((w.alloc (.cells #[.string s] 9)).alloc (.cells #[.int .i64 at_] 3)) (.cells #[.int .i64 0] 3); simpa using this
  · have := heap_alloc_new (((w.alloc (.cells #[.string s] 9)).alloc (.cells #[.int .i64 at_] 3)).alloc (.cells #[.int .i64 0] 3)) (.cells #[.int .i64 0] 3); simpa using this

set_option maxRecDepth 100000 in
set_option maxHeartbeats 400000 in
theorem read_any (s : ByteArray) (at_ : Nat) (w : World) (hs : s.size ≤ 1000000000) (h : at_ ≤ s.size) : Calls Try.prog 91 #[.string s, .int .i64 at_] w
    fun x w' => x = rdEnd at_ (W.rd (s.data.toList.drop at_) 0 0) ∧ Below w.heap.size w w' := by
  have hmf : ∀ (fn : Fn) (first cap : Array Value) (w : World), (Instr.makeFunc fn first cap).run Try.prog w = .ok (.func fn first cap) w := fun _ _ _ _ => rfl
  generalize hl : s.data.toList.drop at_ = l
  have HL := Lib.hid hl; clear hl
  go_enter Try.func91, Try.ntmps91
  go_wp2_with fail
  refine (must_yes 1 _).mono ?_
  rintro e w' ⟨rfl, rfl⟩
  go_wp2_with fail
  go_loopg [] 5 (fun k wr => RdRel l w s at_ k wr)
  case atStart => exact rd_start l w s at_
  case round =>
    obtain ⟨i, n, hi, hk, hn, hm, hb, hsz, hr⟩ := hrel
    have HR := Lib.hid hr; clear hr
    have HK := Lib.hid hk; clear hk
    by_cases hend : at_ + i < s.size
    · have hx : s[at_ + i].toNat < 256 := UInt8.toNat_lt _
      obtain ⟨x, hxe⟩ : ∃ x, x = s[at_ + i].toNat := ⟨_, rfl⟩
      obtain ⟨m, hme⟩ : ∃ m, m = n + x % 128 * 128 ^ i := ⟨_, rfl⟩
      have hx2 : x < 256 := by omega
      have HX := Lib.hid hxe; clear hxe hx
      have HM := Lib.hid hme; clear hme
      go_wp2_with fail
      refine (next_yes w.heap.size s at_ i n _ hm h hi hn hs hend x m HX.out HM.out).mono ?_
      rintro e w1 ⟨rfl, hm1, hb1⟩
      have k1 : w1.cell? ⟨w.heap.size + 1, 0, none⟩ = some (.int .i64 (at_ : Int)) := cell_of_one hm1.at_
      have k2 : w1.cell? ⟨w.heap.size + 1 + 1, 0, none⟩ = some (.int .i64 (m : Int)) := cell_of_one hm1.n
      have k3 : w1.cell? ⟨w.heap.size + 1 + 1 + 1, 0, none⟩ = some (.int .i64 ((i : Int) + 1)) := cell_of_one hm1.i
      have hr0 := rd_cons hend HL.out
      have HR0 := Lib.hid hr0; clear hr0
      by_cases c1 : m ≤ 2147483647
      · by_cases c2 : x < 128
        · go_wp2_with fail
          refine (must_yes 2 _).mono ?_
          rintro e w' ⟨rfl, rfl⟩
          by_cases c3 : 0 < x
          · go_wp2_with fail
            refine (must_yes 4 _).mono ?_
            rintro e w' ⟨rfl, rfl⟩
            go_wp2_with fail
            go_quiet (fail)
            go_wp2_with fail
            go_ret2
            refine ⟨?_, below_drewN (hb.trans hb1) _⟩
            rw [← HR.out, W.rd_ok HR0.out HX.out HM.out c1 c2 (.inl c3)]
            rfl
          · by_cases c4 : i = 0
            · subst c4
              go_wp2_with fail
              refine (must_so _ (by simp) 4 _).mono ?_
              rintro e w' ⟨rfl, rfl⟩
              go_wp2_with fail
              go_quiet (fail)
              go_wp2_with fail
              go_ret2
              refine ⟨?_, below_drewN (hb.trans hb1) _⟩
              rw [← HR.out, W.rd_ok HR0.out HX.out HM.out c1 c2 (.inr rfl)]
              simp [rdEnd]
            · have c4' : (((i : Int) + 1) == 1) = false := beq_eq_false_iff_ne.2 (by omega)
              go_wp2_with fail
              refine (must_not _ (by first | rfl | (simp; omega)) 4 _).mono ?_
              rintro e w' ⟨rfl, rfl⟩
              go_wp2_with fail
              refine ⟨rfl, ?_, hb.trans hb1⟩
              rw [← HR.out, W.rd_form HR0.out HX.out HM.out c1 c2 (by omega)]
              rfl
        · by_cases c5 : i + 1 < 5
          · go_wp2_with fail
            refine (must_so _ (by simp; omega) 2 _).mono ?_
            rintro e w' ⟨rfl, rfl⟩
            go_wp2_with fail
            go_roundg (gk - 1)
            case rel => exact ⟨i + 1, m, c5, by have := HK.out; omega, c1, hm1, hb.trans hb1, Nat.le_trans hsz hb1.size, by rw [← HR.out, W.rd_more HR0.out HX.out HM.out c1 c2 c5]⟩
            case measure => have := HK.out; omega
          · go_wp2_with fail
            refine (must_not _ (by simp; omega) 2 _).mono ?_
            rintro e w' ⟨rfl, rfl⟩
            go_wp2_with fail
            refine ⟨rfl, ?_, hb.trans hb1⟩
            rw [← HR.out, W.rd_big HR0.out HX.out HM.out (by omega)]
            rfl
      · go_wp2_with fail
        refine (must_no 2 _).mono ?_
        rintro e w' ⟨rfl, rfl⟩
        go_wp2_with fail
        refine ⟨rfl, ?_, hb.trans hb1⟩
        rw [← HR.out, W.rd_big HR0.out HX.out HM.out (by omega)]
        rfl
    · go_wp2_with fail
      refine (next_no w.heap.size s at_ i n _ hm h hi hs hend).mono ?_
      rintro e w1 ⟨rfl, rfl⟩
      go_wp2_with fail
      refine ⟨rfl, ?_, hb⟩
      rw [← HR.out, rd_nil hend HL.out]
      rfl
end Go.Proofs.Ytdfgnmdofjhnkaa
