/- Arguments of chapter 11's laws: lists of numbers, of messages, of truths. -/
import Derived.Test.YtmbilaepeekglaaOpen
import Derived.Test.YtmbilaepeekglaaHuA
namespace Go.Proofs.Ytmbilaepeekglaa
open Go.ChangeShapes Go.WideShapes Go.ChangeAt Go.RowKit

/-- A message whose number fits a word. -/
def Rep.wmsg : Rep (Int × Int) where
  size := 2
  pos := by omega
  is _ _ _ cs a := cs = [.int .i64 a.1, .int .i64 a.2] ∧ Wf a.1
  len h := by rw [h.1]; rfl
  keep h _ := h
  widen h _ := h
  soft h := h
  one h := by rw [h.1]; intro u hu; simp at hu; rcases hu with rfl | rfl <;> rfl
/-- A truth. -/
def Rep.bool : Rep Bool where
  size := 1
  pos := by omega
  is _ _ _ cs a := cs = [.bool a]
  len h := by rw [h]; rfl
  keep h _ := h
  widen h _ := h
  soft h := h
  one h := by rw [h]; intro u hu; simp at hu; subst hu; rfl

theorem wmsg_all {fr : Bool} {w : World} {S : Nat → Prop} : ∀ {xs : List (Int × Int)} {cells : List Value}, Rep.wmsg.all fr w S cells xs → Rep.msg.all fr w S cells xs ∧ ∀ m ∈ xs, Wf m.1 := by
  intro xs
  induction xs with
  | nil => intro cells h; exact ⟨h, fun m hm => by cases hm⟩
  | cons x xs ih =>
    intro cells h
    obtain ⟨cs, rest, rfl, h1, h2⟩ := h
    obtain ⟨h3, h4⟩ := ih h2
    refine ⟨⟨cs, rest, rfl, h1.1, h3⟩, fun m hm => ?_⟩
    rcases List.mem_cons.1 hm with rfl | hm
    · exact h1.2
    · exact h4 m hm
theorem wmsg_slice {fr : Bool} {w : World} {lo hi : Nat} {v : Value} {xs : List (Int × Int)} (h : SliceIs Rep.wmsg fr w lo hi v xs) : SliceIs Rep.msg fr w lo hi v xs ∧ ∀ m ∈ xs, Wf m.1 := by
  obtain ⟨A, c, rfl, h1, h2, cells, h3, h4⟩ := h
  obtain ⟨h5, h6⟩ := wmsg_all h3
  exact ⟨⟨A, c, rfl, h1, h2, cells, h5, h4⟩, h6⟩
section
set_option maxRecDepth 100000
variable {H : Type} {enc : TypeId × Value → H} {W : World}
theorem opens_wmsg {P : Program} {t : TypeId} {f0 f1 : Field} (hs : P.underlying t = some (.struct #[f0, f1])) (h0 : P.underlying f0.type = some (.int .i64)) (h1 : P.underlying f1.type = some (.int .i64)) (hc : P.cellsOf t = 2) (o0 : f0.offset = 0) (o1 : f1.offset = 1) (c0 : P.cellsOf f0.type = 1) (c1 : P.cellsOf f1.type = 1) :
    Opens enc P W t Rep.wmsg := by
  intro fuel cs x h
  obtain ⟨xs, n, _, _, hl, hxl, hf⟩ := DataW.trod_struct hs h
  rw [hc] at hl
  match cs, hl, xs, hxl with
  | [u0, u1], _, [x0, x1], _ =>
    have e0 := hf 0 f0 rfl
    have e1 := hf 1 f1 rfl
    rw [o0, c0] at e0
    rw [o1, c1] at e1
    obtain ⟨a, ha, _, hw⟩ := DataW.trod_int h0 e0
    obtain ⟨b, hb, _⟩ := DataW.trod_int h1 e1
    simp at ha hb
    exact ⟨(a, b), by rw [ha, hb], hw⟩
theorem wmsg_opens : Opens enc Try.prog W 54 Rep.wmsg := opens_wmsg Try.underlying54 Try.underlying3 Try.underlying3 (by kernel_rfl) rfl rfl (by kernel_rfl) (by kernel_rfl)
theorem bool_opens : Opens enc Try.prog W 4 Rep.bool := by
  intro fuel cs x h
  obtain ⟨b, rfl, _⟩ := DataW.trod_bool Try.underlying4 h
  exact ⟨b, rfl⟩
theorem arg_msgs {v : Value} {d : DataW H} {p : List MemPlace} {base : Nat} (hv : Value.okWide Try.prog W .any base 24 v) (h : DataW.Trod enc Try.prog W 0 (fun _ => true) true 24 v d p) :
    ∃ xs : List (Int × Int), SliceIs Rep.msg false W 0 W.heap.size v xs ∧ ∀ m ∈ xs, Wf m.1 := by
  obtain ⟨xs, hx⟩ := arg_slice Try.underlying24 (opens_slice Try.underlying24 (by kernel_rfl) wmsg_opens) hv h
  exact ⟨xs, wmsg_slice hx⟩
theorem arg_nums {v : Value} {d : DataW H} {p : List MemPlace} {base : Nat} (hv : Value.okWide Try.prog W .any base 23 v) (h : DataW.Trod enc Try.prog W 0 (fun _ => true) true 23 v d p) :
    ∃ xs : List Int, SliceIs Rep.int false W 0 W.heap.size v xs :=
  arg_slice Try.underlying23 (opens_slice Try.underlying23 (by kernel_rfl) (opens_int Try.underlying3)) hv h
theorem arg_bools {v : Value} {d : DataW H} {p : List MemPlace} {base : Nat} (hv : Value.okWide Try.prog W .any base 52 v) (h : DataW.Trod enc Try.prog W 0 (fun _ => true) true 52 v d p) :
    ∃ xs : List Bool, SliceIs Rep.bool false W 0 W.heap.size v xs :=
  arg_slice Try.underlying52 (opens_slice Try.underlying52 (by kernel_rfl) bool_opens) hv h
end
end Go.Proofs.Ytmbilaepeekglaa
