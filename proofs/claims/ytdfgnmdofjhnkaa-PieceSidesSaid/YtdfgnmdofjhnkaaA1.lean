/- word.Put -/
import Derived.Test.YtdfgnmdofjhnkaaA0
import Derived.Test.YtdfgnmdofjhnkaaWLaw
import Derived.Laws.BitsAllLaws
namespace Go.Proofs.Ytdfgnmdofjhnkaa
open Go.RowKit

theorem Try.infoU8 : (Try.prog.info? 5).map (fun i => (i.zero, i.size, i.bytes)) = some (some (.int .u8 0), 1, 1) := by kernel_rfl

/-- The relation of Put's loop. -/
def PutRel (n : Int) (w : World) (v b : Value) (wr : World) : Prop :=
  ∃ (m k : Nat) (l : List UInt8), v = .int .i64 m ∧ wr.ownsRow w.heap.size 5 1 b l.length (u8s l) ∧ m < 128 ^ (k + 1) ∧ m ≤ 2147483647 ∧ l.length + k ≤ 4 ∧ l ++ W.encF k m = W.put n ∧ Below w.heap.size w wr

theorem put_last {base : Nat} {v : Value} (w1 : World) (l : List UInt8) (m : Nat) (hlt : m < 128) (h : w1.ownsRow base 5 1 v (l.length + 1) (u8s l ++ [.int .u8 (m : Int)])) :
    (convert 53 9 v).run Try.prog w1 = .ok (.string ⟨(l ++ [UInt8.ofNat m]).toArray⟩) w1 := by
  have e : u8s l ++ [.int .u8 (m : Int)] = u8s (l ++ [UInt8.ofNat m]) := by
    rw [← u8s_snoc]; congr 4
    have : (UInt8.ofNat m).toNat = m := by simp; omega
    omega
  refine run_bytes_own _ _ _ Try.underlying53 Try.underlying5 Try.underlying9 base v (l ++ [UInt8.ofNat m]) ?_ (by simp)
  rw [← e]; simpa using h

theorem put_start (n : Int) (w : World) : PutRel n w (.int .i64 (min (max n 0) 2147483647)) (.slice none 0 0) w :=
  ⟨W.cl n, 4, [], by congr 1; unfold W.cl; omega, World.ownsRow_nil _ _ _ _, by have := W.cl_le n; omega, W.cl_le n, by simp, rfl, Below.refl _ _⟩

theorem bits_or_128 (m : Nat) : bits .or .u8 ((m : Int) % 128) 128 = ((m % 128 + 128 : Nat) : Int) := by
  have h1 : ((m : Int) % 128) = ((m % 128 : Nat) : Int) := by omega
  rw [h1, show (128 : Int) = ((128 : Nat) : Int) from rfl, u8_or_nat _ _ (by omega) (by omega)]
  have : ∀ x : Fin 128, x.val ||| 128 = x.val + 128 := by decide
  have := this ⟨m % 128, by omega⟩
  simp only at this
  rw [this]

theorem put_round {n : Int} {w w1 : World} {v : Value} {l : List UInt8} {m k : Nat} (hlt : ¬ m < 128) (hown : w1.ownsRow w.heap.size 5 1 v (l.length + 1) (u8s l ++ [.int .u8 (bits .or .u8 ((m : Int) % 128) 128)]))
    (hm' : m ≤ 2147483647) (hm : m < 128 ^ (k + 1)) (hk : l.length + k ≤ 4) (hl : l ++ W.encF k m = W.put n) (hb : Below w.heap.size w w1) : PutRel n w (.int .i64 ((m : Int) / 128)) v w1 := by
  cases k with
  | zero => omega
  | succ k =>
    refine ⟨m / 128, k, l ++ [UInt8.ofNat (m % 128 + 128)], by congr 1, ?_, ?_, by omega, by simp; omega, ?_, hb⟩
    · rw [← u8s_snoc]
      have e : ((UInt8.ofNat (m % 128 + 128)).toNat : Int) = bits .or .u8 ((m : Int) % 128) 128 := by
        rw [bits_or_128]; simp; omega
      rw [e]; simpa using hown
    · rw [Nat.pow_succ] at hm; omega
    · rw [← hl, W.encF, if_neg hlt]; simp

set_option maxRecDepth 100000 in
set_option maxHeartbeats 400000 in
theorem put_any (n : Int) (w : World) : Calls Try.prog 89 #[.int .i64 n] w fun x w' => x = .returned (.string ⟨(W.put n).toArray⟩) ∧ Below w.heap.size w w' := by
  go_enter Try.func89, Try.ntmps89
  go_wp2_with fail
  go_loopw [0, 3] (fun v b wr => PutRel n w v b wr) (fun v _ _ => (intOf v).toNat)
  case atStart => exact put_start n w
  case round =>
    obtain ⟨m, k, l, rfl, hown, hm, hm', hk, hl, hb⟩ := hrel
    have HL := Lib.hid hl; clear hl
    have HM := Lib.hid hm; clear hm
    by_cases hlt : m < 128
    · go_wp2_with (at_builtin; refine wpList_append1 rfl _ _ 53 rfl w.heap.size 5 Try.infoU8 Try.underlying53 rfl _ _ _ rfl hown (.int .u8 (m : Int)) rfl rfl (by omega) (by omega) hb.size ?_; intro v1 w1 hown1 hg1 hb1; have hcv := put_last w1 l m hlt hown1; clear hown1)
      go_ret
      exact ⟨by rw [← W.put_end n l m k hlt HL.out]; rfl, hb.trans hb1⟩
    · go_wp2_with (at_builtin; refine wpList_append1 rfl _ _ 53 rfl w.heap.size 5 Try.infoU8 Try.underlying53 rfl _ _ _ rfl hown _ rfl rfl (by omega) (by omega) hb.size ?_; intro v1 w1 hown1 hg1 hb1)
      go_roundw
      case rel => exact put_round hlt hown1 hm' HM.out hk HL.out (hb.trans hb1)
      case measure => simp [intOf]; omega
end Go.Proofs.Ytdfgnmdofjhnkaa
