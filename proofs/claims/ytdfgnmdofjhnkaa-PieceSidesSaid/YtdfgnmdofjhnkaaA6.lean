/- word.Text, word.Puts -/
import Derived.Test.YtdfgnmdofjhnkaaA5
import Derived.Test.YtdfgnmdofjhnkaaWLaw2
namespace Go.Proofs.Ytdfgnmdofjhnkaa
open Go.RowKit

/-- A slice that reads as a list of numbers, below block B. -/
def IsInts (w : World) (B : Nat) (v : Value) (xs : List Int) : Prop :=
  ∃ A c, v = .slice A xs.length c ∧ xs.length ≤ c ∧ c ≤ maxLen ∧ (xs ≠ [] → ∃ g o, A = some ⟨g, o, none⟩ ∧ g < B ∧ ∀ k, k < xs.length → w.cell? ⟨g, o + k, none⟩ = some (.int .i64 (xs.getD k 0)))

theorem IsInts.keep {w w' : World} {B : Nat} {v : Value} {xs : List Int} (h : IsInts w B v xs) (hb : Below B w w') : IsInts w' B v xs := by
  obtain ⟨A, c, rfl, hn, hm, hc⟩ := h
  refine ⟨A, c, rfl, hn, hm, fun hx => ?_⟩
  obtain ⟨g, o, rfl, hg, hk⟩ := hc hx
  exact ⟨g, o, rfl, hg, fun k hk' => (hb.cell hg).trans (hk k hk')⟩
theorem IsInts.up {w : World} {B B' : Nat} {v : Value} {xs : List Int} (h : IsInts w B v xs) (hb : B ≤ B') : IsInts w B' v xs := by
  obtain ⟨A, c, rfl, hn, hm, hc⟩ := h
  refine ⟨A, c, rfl, hn, hm, fun hx => ?_⟩
  obtain ⟨g, o, rfl, hg, hk⟩ := hc hx
  exact ⟨g, o, rfl, by omega, hk⟩

theorem app_text (s : ByteArray) : (⟨(W.put (s.size : Int)).toArray⟩ : ByteArray) ++ s = ⟨(W.text s.data.toList).toArray⟩ := by
  obtain ⟨⟨d⟩⟩ := s
  rw [show (ByteArray.mk ⟨d⟩) = ByteArray.mk d.toArray from rfl, ByteArray.mk_append_mk]
  rfl

set_option maxHeartbeats 400000 in
theorem text_any (s : ByteArray) (w : World) (hs : s.size ≤ 1000000000) : Calls Try.prog 68 #[.string s] w
    fun x w' => x = .returned (.string ⟨(W.text s.data.toList).toArray⟩) ∧ Below w.heap.size w w' := by
  have hl := (W.put_len s.size).1
  generalize hp : W.put s.size = p at hl
  have HP := Lib.hid hp; clear hp
  go_enter Try.func68, Try.ntmps68
  go_wp2_with fail
  refine (put_any _ _).mono ?_
  rintro y w1 ⟨rfl, hb⟩
  rw [HP.out]
  go_wp2_with fail
  go_ret
  refine ⟨?_, hb⟩
  rw [← HP.out]
  exact congrArg (fun z => Ending.returned (.string z)) (app_text s)

def PutsRel (xs : List Int) (w : World) (k : Nat) (i s : Value) (wr : World) : Prop :=
  ∃ (j : Nat) (l : List UInt8), i = .int .i64 (j : Int) ∧ j ≤ xs.length ∧ k = xs.length - j ∧ s = .string ⟨l.toArray⟩ ∧ l = W.puts (xs.take j) ∧ Below w.heap.size w wr

theorem puts_round {xs : List Int} {w wr w1 : World} {j : Nat} {l p : List UInt8} {x : Int} (hlt : j < xs.length) (hb : Below w.heap.size w wr) (hb1 : Below wr.heap.size wr w1) (hl : l = W.puts (xs.take j)) (hx : xs.getD j 0 = x) (hp : W.put x = p) :
    PutsRel xs w (xs.length - (j + 1)) (.int .i64 ((j : Int) + 1)) (.string (⟨l.toArray⟩ ++ ⟨p.toArray⟩)) w1 :=
  ⟨j + 1, l ++ p, by simp, by omega, rfl, by rw [ByteArray.mk_append_mk], by rw [W.take_snoc xs j hlt, W.puts_snoc, hx, hp, hl], hb.trans (hb1.mono hb.size)⟩

set_option maxHeartbeats 400000 in
theorem puts_any (v : Value) (xs : List Int) (w : World) (h : IsInts w w.heap.size v xs) (hs : xs.length ≤ 1000000) : Calls Try.prog 43 #[v] w
    fun x w' => x = .returned (.string ⟨(W.puts xs).toArray⟩) ∧ Below w.heap.size w w' := by
  obtain ⟨A, c, rfl, _, _, hc⟩ := h
  go_enter Try.func43, Try.ntmps43
  go_wp2_with fail
  go_loopg [8, 3] xs.length (fun k i s wr => PutsRel xs w k i s wr)
  case atStart => exact ⟨0, [], rfl, by omega, by omega, rfl, rfl, Below.refl _ _⟩
  case round =>
    obtain ⟨j, l, rfl, hj, hk, rfl, hl, hb⟩ := hrel
    have hll : l.length ≤ 5000000 := by rw [hl]; have := W.puts_len (xs.take j); simp at this; omega
    have HL := Lib.hid hl; clear hl
    have HK := Lib.hid hk; clear hk
    by_cases hlt : j < xs.length
    · obtain ⟨g, o, rfl, hg, hcell⟩ := hc (by rintro rfl; simp at hlt)
      have hcj : wr.cell? ⟨g, o + j, none⟩ = some (.int .i64 (xs.getD j 0)) := (hb.cell hg).trans (hcell j hlt)
      generalize hx : xs.getD j 0 = x at hcj
      have hpl := (W.put_len x).1
      generalize hp : W.put x = p at hpl
      have HX := Lib.hid hx; clear hx
      have HP := Lib.hid hp; clear hp
      clear hcell hc
      go_wp2_with fail
      refine (put_any _ _).mono ?_
      rintro y w1 ⟨rfl, hb1⟩
      rw [HP.out]
      go_wp2_with fail
      go_roundg (xs.length - (j + 1))
      case rel => exact puts_round hlt hb hb1 HL.out HX.out HP.out
      case measure => have := HK.out; omega
    · clear hc
      go_wp2_with fail
      go_ret
      refine ⟨?_, hb⟩
      have := HL.out
      rw [List.take_of_length_le (by omega)] at this
      rw [← this]
      rfl
end Go.Proofs.Ytdfgnmdofjhnkaa
