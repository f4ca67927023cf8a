/- The document's reader: (*Reader).next -/
import Derived.Test.YtdfgnmdofjhnkaaPO
namespace Go.Proofs.Ytdfgnmdofjhnkaa
open Go.RowKit

/-- Block g is a reader: 'l' is what is left; at most 'm' were read. -/
def RN (g lo : Nat) (w : World) (l : List Int) (m : Nat) : Prop :=
  ∃ (A : Option Addr) (c : Nat) (L : List Int) (at_ : Nat), w.heap[g]? = some (.cells #[.slice A L.length c, .int .i64 at_] 94 (0, 0)) ∧ L.length ≤ c ∧ c ≤ maxLen ∧ SliceAt Rep.int false w lo g A L ∧ l = L.drop at_ ∧ at_ ≤ m

theorem RN.far {g lo m : Nat} {w w' : World} {l : List Int} (h : RN g lo w l m) (hb : ∀ b, b ≤ g → w'.heap[b]? = w.heap[b]?) : RN g lo w' l m := by
  obtain ⟨A, c, L, at_, h1, h2, h3, h4, h5⟩ := h
  exact ⟨A, c, L, at_, (hb g (Nat.le_refl _)).trans h1, h2, h3, h4.keep fun b _ hb2 => hb b (by omega), h5⟩
theorem RN.lt {g lo m : Nat} {w : World} {l : List Int} (h : RN g lo w l m) : g < w.heap.size := by
  obtain ⟨A, c, L, at_, h1, _⟩ := h; exact lt_of_block h1

theorem grown_seti {w : World} (g i : Nat) (u : Value) : w.grownBy (w.setCell ⟨g, i, none⟩ u) (some g) :=
  ⟨rfl, rfl, rfl, by simp [World.setCell], fun k hk hne => heap_setCell_other _ _ _ _ (by rintro rfl; exact hne rfl)⟩
theorem grown_drewN {w0 w : World} {g : Option Nat} (h : w0.grownBy w g) (n : Nat) : w0.grownBy (w.drewN n) g := ⟨h.os, h.tape, h.output, h.size, h.block⟩
theorem RN.drewN {g lo m : Nat} {w : World} {l : List Int} (h : RN g lo w l m) (n : Nat) : RN g lo (w.drewN n) l m := h.far fun _ _ => rfl

set_option maxRecDepth 100000 in
set_option maxHeartbeats 2000000 in
theorem rnext_any (g lo m : Nat) (l : List Int) (w : World) (h : RN g lo w l m) (hm : m ≤ 1000000) : Calls Try.prog 55 #[.pointer (some ⟨g, 0, none⟩)] w
    fun x w' => x = .returned (.int .i64 (Pc.nx l).1) ∧ RN g lo w' (Pc.nx l).2 (m + 1) ∧ w.grownBy w' (some g) := by
  obtain ⟨A, c, L, at_, h1, h2, h3, h4, rfl, h5⟩ := h
  have c0 := blk_cell h1 0
  have c1 := blk_cell h1 1
  have f1 : w.frozen? ⟨g, 1, none⟩ = false := by simp [World.frozen?, h1]
  have r := blk_set h1 1 (.int .i64 ((at_ : Int) + 1))
  have d0 := blk_cell r 0
  have d1 := blk_cell r 1
  simp at c0 c1 d0 d1
  have hfin : RN g lo (w.setCell ⟨g, 1, none⟩ (.int .i64 ((at_ : Int) + 1))) (L.drop (at_ + 1)) (m + 1) :=
    ⟨A, c, L, at_ + 1, by rw [r]; simp, h2, h3, h4.keep fun b _ hb => heap_setCell_other _ _ _ _ (by simp; omega), rfl, by omega⟩
  have hgr : w.grownBy (w.setCell ⟨g, 1, none⟩ (.int .i64 ((at_ : Int) + 1))) (some g) := grown_seti g 1 _
  have HF := Lib.hid hfin; clear hfin r h1
  unfold maxLen at h3
  by_cases hlt : at_ < L.length
  · obtain ⟨x, hx⟩ := Pc.get_at hlt
    have e := Pc.drop_at hx
    rw [e]
    obtain ⟨gx, ox, rfl, _, hgx, cx⟩ := h4.int hx
    have E := Lib.hid e; clear e hx h4
    go_enter Try.func55, Try.ntmps55
    go_wp2_with fail
    go_quiet (fail)
    go_wp2_with fail
    go_quiet (fail)
    go_wp2_with fail
    go_ret
    exact ⟨rfl, (HF.out.drewN _).drewN _, grown_drewN (grown_drewN hgr _) _⟩
  · have e : L.drop at_ = [] := List.drop_eq_nil_of_le (by omega)
    have e2 : L.drop (at_ + 1) = [] := List.drop_eq_nil_of_le (by omega)
    rw [e]
    rw [e2] at HF
    clear e e2 h4
    go_enter Try.func55, Try.ntmps55
    go_wp2_with fail
    go_quiet (fail)
    go_wp2_with fail
    go_ret
    exact ⟨rfl, HF.out.drewN _, grown_drewN hgr _⟩
end Go.Proofs.Ytdfgnmdofjhnkaa
