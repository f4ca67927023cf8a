/- The document's functions of layer 1: Put, Puts, Text, Ints. -/
import Derived.Test.YtdfgnmdofjhnkaaA6
namespace Go.Proofs.Ytdfgnmdofjhnkaa
open Go.RowKit

/-- 'string([]byte{x})'. -/
theorem run_byte_string (w : World) (c : UInt8) : (convert 53 9 (.slice (some ⟨w.heap.size, 0, none⟩) 1 1)).run Try.prog (w.alloc (.cells #[.int .u8 (c.toNat : Int)] 5)) = .ok (.string ⟨[c].toArray⟩) (w.alloc (.cells #[.int .u8 (c.toNat : Int)] 5)) := by
  refine run_bytes_own _ _ 5 Try.underlying53 Try.underlying5 Try.underlying9 w.heap.size _ [c] ?_ (by simp)
  exact ⟨by simp, .inr ⟨w.heap.size, 1, _, rfl, Nat.le_refl _, heap_alloc_new _ _, Nat.le_refl _, by unfold maxLen; omega, rfl, rfl⟩⟩

theorem run_byte_string' (w : World) (c : UInt8) (x : Int) (hx : (c.toNat : Int) = x) : (convert 53 9 (.slice (some ⟨w.heap.size, 0, none⟩) 1 1)).run Try.prog (w.alloc (.cells #[.int .u8 x] 5)) = .ok (.string ⟨[c].toArray⟩) (w.alloc (.cells #[.int .u8 x] 5)) := by
  subst hx; exact run_byte_string w c

def RPutRel (n : Int) (w : World) (v b : Value) (wr : World) : Prop :=
  ∃ (m k : Nat) (l : List UInt8), v = .int .i64 m ∧ b = .string ⟨l.toArray⟩ ∧ m < 128 ^ (k + 1) ∧ m ≤ 2147483647 ∧ l.length + k ≤ 4 ∧ l ++ W.encF k m = W.put n ∧ Below w.heap.size w wr

theorem rput_round {n : Int} {w w1 : World} {l : List UInt8} {m k : Nat} (hlt : ¬ m < 128)
    (hm' : m ≤ 2147483647) (hm : m < 128 ^ (k + 1)) (hk : l.length + k ≤ 4) (hl : l ++ W.encF k m = W.put n) (hb : Below w.heap.size w w1) : RPutRel n w (.int .i64 ((m : Int) / 128)) (.string (⟨l.toArray⟩ ++ ⟨[UInt8.ofNat (m % 128 + 128)].toArray⟩)) w1 := by
  cases k with
  | zero => omega
  | succ k =>
    refine ⟨m / 128, k, l ++ [UInt8.ofNat (m % 128 + 128)], by congr 1, by rw [ByteArray.mk_append_mk], ?_, by omega, by simp; omega, ?_, hb⟩
    · rw [Nat.pow_succ] at hm; omega
    · rw [← hl, W.encF, if_neg hlt]; simp

set_option maxRecDepth 100000 in
set_option maxHeartbeats 400000 in
theorem rput_any (n : Int) (w : World) : Calls Try.prog 69 #[.int .i64 n] w fun x w' => x = .returned (.string ⟨(W.put n).toArray⟩) ∧ Below w.heap.size w w' := by
  go_enter Try.func69, Try.ntmps69
  go_wp2_with fail
  refine (cut_any _ _).mono ?_
  rintro y w1 ⟨rfl, rfl⟩
  go_wp2_with fail
  go_loopw [0, 3] (fun v b wr => RPutRel n w v b wr) (fun v _ _ => (intOf v).toNat)
  case atStart => exact ⟨W.cl n, 4, [], by congr 1; unfold W.cl; omega, rfl, by have := W.cl_le n; omega, W.cl_le n, by simp, rfl, Below.refl _ _⟩
  case round =>
    obtain ⟨m, k, l, rfl, rfl, hm, hm', hk, hl, hb⟩ := hrel
    have HL := Lib.hid hl; clear hl
    have HM := Lib.hid hm; clear hm
    have hll : l.length ≤ 4 := by omega
    by_cases hlt : m < 128
    · have hcv := fun w => run_byte_string' w (UInt8.ofNat m) m (by simp; omega)
      go_wp2_with fail
      go_ret
      refine ⟨?_, hb.alloc hb.size _⟩
      rw [W.put_end n l m k hlt HL.out]
      exact congrArg (fun z => Ending.returned (.string z)) (ByteArray.mk_append_mk _ _)
    · obtain ⟨c, hc⟩ : ∃ c, c = UInt8.ofNat (m % 128 + 128) := ⟨_, rfl⟩
      have hcv := fun w => run_byte_string' w c (128 + (m : Int) % 128) (by rw [hc]; simp; omega)
      have HC := Lib.hid hc; clear hc
      go_wp2_with fail
      go_roundw
      case rel => rw [HC.out]; exact rput_round hlt hm' HM.out hk HL.out (hb.alloc hb.size _)
      case measure => simp [intOf]; omega

set_option maxHeartbeats 400000 in
theorem rtext_any (s : ByteArray) (w : World) (hs : s.size ≤ 1000000000) : Calls Try.prog 70 #[.string s] w
    fun x w' => x = .returned (.string ⟨(W.text s.data.toList).toArray⟩) ∧ Below w.heap.size w w' := by
  have hl := (W.put_len s.size).1
  generalize hp : W.put s.size = p at hl
  have HP := Lib.hid hp; clear hp
  go_enter Try.func70, Try.ntmps70
  go_wp2_with fail
  refine (rput_any _ _).mono ?_
  rintro y w1 ⟨rfl, hb⟩
  rw [HP.out]
  go_wp2_with fail
  go_ret
  refine ⟨?_, hb⟩
  rw [← HP.out]
  exact congrArg (fun z => Ending.returned (.string z)) (app_text s)

set_option maxHeartbeats 400000 in
theorem rputs_any (v : Value) (xs : List Int) (w : World) (h : IsInts w w.heap.size v xs) (hs : xs.length ≤ 1000000) : Calls Try.prog 44 #[v] w
    fun x w' => x = .returned (.string ⟨(W.puts xs).toArray⟩) ∧ Below w.heap.size w w' := by
  obtain ⟨A, c, rfl, _, _, hc⟩ := h
  go_enter Try.func44, Try.ntmps44
  go_wp2_with fail
  go_loopg [4, 3] xs.length (fun k i s wr => PutsRel xs w k i s wr)
  case atStart => exact ⟨0, [], rfl, by omega, by omega, rfl, rfl, Below.refl _ _⟩
  case round =>
    obtain ⟨j, l, rfl, hj, hk, rfl, hl, hb⟩ := hrel
    have hll : l.length ≤ 5000000 := by rw [hl]; have := W.puts_len (xs.take j); simp at this; omega
    have HL := Lib.hid hl; clear hl
    have HK := Lib.hid hk; clear hk
    by_cases hlt : j < xs.length
    · obtain ⟨g, o, rfl, hg, hcell⟩ := hc (by rintro rfl; simp at hlt)
      have hcj : wr.cell? ⟨g, o + j, none⟩ = some (.int .i64 (xs.getD j 0)) := (hb.cell hg).trans (hcell j hlt)
      generalize hx : xs.getD j 0 = x at hcj
      have hpl := (W.put_len x).1
      generalize hp : W.put x = p at hpl
      have HX := Lib.hid hx; clear hx
      have HP := Lib.hid hp; clear hp
      clear hcell hc
      go_wp2_with fail
      refine (rput_any _ _).mono ?_
      rintro y w1 ⟨rfl, hb1⟩
      rw [HP.out]
      go_wp2_with fail
      go_roundg (xs.length - (j + 1))
      case rel => exact puts_round hlt hb hb1 HL.out HX.out HP.out
      case measure => have := HK.out; omega
    · clear hc
      go_wp2_with fail
      go_ret
      refine ⟨?_, hb⟩
      have := HL.out
      rw [List.take_of_length_le (by omega)] at this
      rw [← this]
      rfl

/-- Ints, of lists of unlike lengths, and of like ones. -/
theorem ints_apart (v u : Value) (xs ys : List Int) (w : World) (h : IsInts w w.heap.size v xs) (h' : IsInts w w.heap.size u ys) (hne : xs.length ≠ ys.length) (_hx : xs.length ≤ 1000000) (_hy : ys.length ≤ 1000000) :
    Calls Try.prog 28 #[v, u] w fun x w' => x = .returned (.bool false) ∧ Below w.heap.size w w' := by
  obtain ⟨A, c, rfl, _, _, hc⟩ := h
  obtain ⟨A', c', rfl, _, _, hc'⟩ := h'
  have e : (((xs.length : Nat) : Int) != ((ys.length : Nat) : Int)) = true := by rw [bne_iff_ne]; omega
  clear hc hc' hne
  go_enter Try.func28, Try.ntmps28
  go_wp2_with fail
  go_ret
  exact ⟨rfl, Below.refl _ _⟩

set_option maxHeartbeats 400000 in
theorem ints_like (v u : Value) (xs ys : List Int) (w : World) (h : IsInts w w.heap.size v xs) (h' : IsInts w w.heap.size u ys) (hne : xs.length = ys.length) (hx : xs.length ≤ 1000000) :
    Calls Try.prog 28 #[v, u] w fun x w' => x = .returned (.bool (decide (xs = ys))) ∧ Below w.heap.size w w' := by
  obtain ⟨A, c, rfl, _, _, hc⟩ := h
  obtain ⟨A', c', rfl, _, _, hc'⟩ := h'
  rw [← hne] at hc' ⊢
  have HN := Lib.hid hne; clear hne
  generalize hd : decide (xs = ys) = d
  have HD := Lib.hid hd; clear hd
  go_enter Try.func28, Try.ntmps28
  go_wp2_with fail
  go_loopg [5] xs.length (fun k i wr => ∃ j : Nat, i = .int .i64 (j : Int) ∧ j ≤ xs.length ∧ k = xs.length - j ∧ xs.take j = ys.take j ∧ Below w.heap.size w wr)
  case atStart => exact ⟨0, rfl, by omega, by omega, rfl, Below.refl _ _⟩
  case round =>
    obtain ⟨j, rfl, hj, hk, hl, hb⟩ := hrel
    have HL := Lib.hid hl; clear hl
    have HK := Lib.hid hk; clear hk
    by_cases hlt : j < xs.length
    · obtain ⟨g, o, rfl, hg, hcell⟩ := hc (by rintro rfl; simp at hlt)
      obtain ⟨g', o', rfl, hg', hcell'⟩ := hc' (by rintro rfl; have := HN.out; simp at this; rw [this] at hlt; simp at hlt)
      have hcj : wr.cell? ⟨g, o + j, none⟩ = some (.int .i64 (xs.getD j 0)) := (hb.cell hg).trans (hcell j hlt)
      have hcj' : wr.cell? ⟨g', o' + j, none⟩ = some (.int .i64 (ys.getD j 0)) := (hb.cell hg').trans (hcell' j (by have := HN.out; omega))
      obtain ⟨x, hx⟩ : ∃ x, x = xs.getD j 0 := ⟨_, rfl⟩
      obtain ⟨y, hy⟩ : ∃ y, y = ys.getD j 0 := ⟨_, rfl⟩
      rw [← hx] at hcj
      rw [← hy] at hcj'
      have HX := Lib.hid hx; clear hx
      have HY := Lib.hid hy; clear hy
      clear hcell hcell' hc hc'
      by_cases hxy : x = y
      · subst hxy
        have hbn : (x != x) = false := by simp
        go_wp2_with fail
        go_quiet (fail)
        go_wp2_with fail
        go_roundg (xs.length - (j + 1))
        case rel => exact ⟨j + 1, by simp, by omega, rfl, W.like_more HN.out hlt HL.out HX.out HY.out, below_drewN hb _⟩
        case measure => have := HK.out; omega
      · have HXY := Lib.hid hxy
        have hbn : (x != y) = true := by simpa using hxy
        clear hxy
        go_wp2_with fail
        go_quiet (fail)
        go_wp2_with fail
        go_ret
        refine ⟨?_, below_drewN hb _⟩
        rw [← HD.out, W.like_not HX.out HY.out HXY.out]
        rfl
    · clear hc hc'
      go_wp2_with fail
      go_ret
      refine ⟨?_, hb⟩
      rw [← HD.out, W.like_all HN.out hlt HL.out]
      rfl

theorem ints_any (v u : Value) (xs ys : List Int) (w : World) (h : IsInts w w.heap.size v xs) (h' : IsInts w w.heap.size u ys) (hx : xs.length ≤ 1000000) (hy : ys.length ≤ 1000000) :
    Calls Try.prog 28 #[v, u] w fun x w' => x = .returned (.bool (decide (xs = ys))) ∧ Below w.heap.size w w' := by
  by_cases hne : xs.length = ys.length
  · exact ints_like v u xs ys w h h' hne hx
  · rw [show decide (xs = ys) = false from decide_eq_false (by rintro rfl; exact hne rfl)]
    exact ints_apart v u xs ys w h h' hne hx hy
end Go.Proofs.Ytdfgnmdofjhnkaa
