/- A slice of the call's own that grows, whatever its elements lead to. Nothing of the program. -/
import Derived.Test.YtmbilaepeekglaaApp
namespace Go.Proofs.Ytmbilaepeekglaa
open Go.RowKit

/-- v: a row of the call's own, in blocks from B on, that reads as xs. -/
def Acc {α : Type} (r : Rep α) (e : TypeId) (B : Nat) (w : World) (v : Value) (xs : List α) : Prop :=
  ∃ cells S, w.ownsRow B e r.size v xs.length cells ∧ r.all true w S cells xs ∧ (∀ b, S b → B ≤ b ∧ b < w.heap.size) ∧ (∀ b, v.ownBlock = some b → ¬ S b)

section
variable {α : Type} {r : Rep α} {e : TypeId} {B : Nat} {w w1 : World} {v : Value} {xs : List α} {x : α} {cs : List Value}
theorem Acc.nil (r : Rep α) (e : TypeId) (B : Nat) (w : World) : Acc r e B w (.slice none 0 0) [] :=
  ⟨[], fun _ => False, World.ownsRow_nil _ _ _ _, rfl, fun _ h => h.elim, fun _ h => by simp [Value.ownBlock] at h⟩
theorem Acc.empty (r : Rep α) (e : TypeId) (w : World) : Acc r e w.heap.size (w.alloc (.cells #[] e)) (.slice (some ⟨w.heap.size, 0, none⟩) 0 0) [] :=
  ⟨[], fun _ => False, own_lit (size := r.size) w.heap.size e 0 [] (by simp) (Nat.le_refl _) (by unfold maxLen; omega), rfl, fun _ h => h.elim, fun _ _ h => h⟩
theorem Acc.lt (h : Acc r e B w v xs) : ∀ b, v.ownBlock = some b → B ≤ b ∧ b < w.heap.size := by
  obtain ⟨cells, S, h1, _⟩ := h; exact h1.lt
theorem Acc.slice (h : Acc r e B w v xs) : SliceIs r true w B w.heap.size v xs := by
  obtain ⟨cells, S, h1, h2, h3, h4⟩ := h
  exact SliceOn.of_own (base := B) (e := e) h1 (Rep.all_widen (fun b hb => h3 b hb) h2) (fun b hb => h1.lt b hb)
theorem Acc.base {B' : Nat} (h : Acc r e B w v xs) (hB : B' ≤ B) : Acc r e B' w v xs := by
  obtain ⟨cells, S, h1, h2, h3, h4⟩ := h
  exact ⟨cells, S, own_base h1 hB, h2, fun b hb => ⟨Nat.le_trans hB (h3 b hb).1, (h3 b hb).2⟩, h4⟩
theorem own_move {size n : Nat} {cells : List Value} (h : w.ownsRow B e size v n cells) (hk : ∀ b, B ≤ b → b < w.heap.size → w1.heap[b]? = w.heap[b]?) : w1.ownsRow B e size v n cells := by
  refine ⟨h.1, ?_⟩
  rcases h.2 with h2 | ⟨g, cap, cur, hv, hg, hh, hr⟩
  · exact .inl h2
  · have hlt : g < w.heap.size := by
      rcases Nat.lt_or_ge g w.heap.size with h' | h'
      · exact h'
      · simp [Array.getElem?_eq_none h'] at hh
    exact .inr ⟨g, cap, cur, hv, hg, (hk g hg hlt).trans hh, hr⟩
theorem Acc.move (h : Acc r e B w v xs) (hk : ∀ b, B ≤ b → b < w.heap.size → w1.heap[b]? = w.heap[b]?) (hs : w.heap.size ≤ w1.heap.size) : Acc r e B w1 v xs := by
  obtain ⟨cells, S, h1, h2, h3, h4⟩ := h
  exact ⟨cells, S, own_move h1 hk, Rep.all_keep (fun b hb => hk b (h3 b hb).1 (h3 b hb).2) h2, fun b hb => ⟨(h3 b hb).1, Nat.lt_of_lt_of_le (h3 b hb).2 hs⟩, h4⟩
theorem Acc.below (h : Acc r e B w v xs) (hb : Below w.heap.size w w1) : Acc r e B w1 v xs := h.move (fun b _ h2 => hb.block b h2) hb.size
/-- One more element, which lies in what was made since. -/
theorem Acc.step (h : Acc r e B w v xs) (hk : ∀ b, B ≤ b → b < w.heap.size → w1.heap[b]? = w.heap[b]?) (hs : w.heap.size ≤ w1.heap.size) (hB : B ≤ w.heap.size) (hcs : r.is true w1 (rng w.heap.size w1.heap.size) cs x) :
    ∃ cells, w1.ownsRow B e r.size v xs.length cells ∧ (∀ v' w2, w2.ownsRow B e r.size v' (xs.length + 1) (cells ++ cs) → w1.grownBy w2 v.ownBlock → (v'.ownBlock = v.ownBlock ∨ ∃ n, v'.ownBlock = some n ∧ w1.heap.size ≤ n) → Acc r e B w2 v' (xs ++ [x])) := by
  obtain ⟨cells, S, h1, h2, h3, h4⟩ := h
  have own1 := own_move h1 hk
  have all1 : r.all true w1 S cells xs := Rep.all_keep (fun b hb => hk b (h3 b hb).1 (h3 b hb).2) h2
  refine ⟨cells, own1, fun v' w2 ho hg ha => ?_⟩
  have k1 : ∀ b, (S b ∨ rng w.heap.size w1.heap.size b) → w2.heap[b]? = w1.heap[b]? := by
    rintro b (hb | hb)
    · exact hg.block b (Nat.lt_of_lt_of_le (h3 b hb).2 hs) (fun he => h4 b he.symm hb)
    · refine hg.block b hb.2 (fun he => ?_)
      have := (h1.lt b he.symm).2
      have := hb.1
      omega
  have hnew : r.all true w2 (fun b => S b ∨ rng w.heap.size w1.heap.size b) (cells ++ cs) (xs ++ [x]) :=
    Rep.all_snoc (Rep.all_keep k1 (Rep.all_widen (fun b hb => .inl hb) all1)) (r.keep (r.widen hcs (fun b hb => .inr hb)) k1)
  refine ⟨cells ++ cs, _, by rw [List.length_append]; exact ho, hnew, ?_, ?_⟩
  · rintro b (hb | hb)
    · exact ⟨(h3 b hb).1, Nat.lt_of_lt_of_le (h3 b hb).2 (Nat.le_trans hs hg.size)⟩
    · exact ⟨by have := hb.1; omega, Nat.lt_of_lt_of_le hb.2 hg.size⟩
  · intro b hb hS
    rcases ha with ha | ⟨n, ha, hn⟩
    · rw [ha] at hb
      rcases hS with hS | hS
      · exact h4 b hb hS
      · have := (h1.lt b hb).2; have := hS.1; omega
    · rw [ha] at hb
      injection hb with hb
      subst hb
      rcases hS with hS | hS
      · have := (h3 _ hS).2; omega
      · have := hS.2; omega
end

section
variable {P : Program} {w : World} {ops : Array Oper} {rest : List Oper} {o : Oper} {a : Act} {Q : Exit → Act → World → Prop}
/-- 'append(s, x)': x's cells lie in a block made on the spot; what x leads to was made since 'w0'. -/
theorem wpList_accB {α : Type} {r : Rep α} {w0 : World} {xs : List α} {y : α} (hgd : o.guard = none) (s x : Operand) (t : TypeId) (ho : o.op = .call { callee := .builtin .append, args := #[s, x], argTypes := #[t, t] })
    (B : Nat) (e : TypeId) {z : Value} {bytes : Nat} (hinfo : (P.info? e).map (fun i => (i.zero, i.size, i.bytes)) = some (some z, r.size, bytes)) (ht : P.underlying t = some (.slice e))
    (hzs : z.cells.size = r.size) (hby : bytes ≤ 1000) (v : Value) (hs : a.eval s = v) (hacc : Acc r e B w0 v xs) (hk : ∀ b, B ≤ b → b < w0.heap.size → w.heap[b]? = w0.heap[b]?) (hsz : w0.heap.size ≤ w.heap.size) (hB : B ≤ w0.heap.size)
    (c H : Nat) (cs : List Value) (hx : a.eval x = .slice (some ⟨H, 0, none⟩) 1 c) (hH : w.heap.size = H) (hcs : r.is true w (rng w0.heap.size w.heap.size) cs y) (hn : xs.length ≤ 1000000)
    (h : ∀ v' w', Acc r e B w' v' (xs ++ [y]) → w.grownBy w' v.ownBlock → Below B w w' → wpList P ops Q rest (a.put o.dst v') w') : wpList P ops Q (o :: rest) a (w.alloc (.cells cs.toArray e)) := by
  obtain ⟨cells, hown, hnext⟩ := hacc.step hk hsz hB hcs
  refine wpList_appendB hgd s x t ho B e hinfo ht hzs r.pos v xs.length cells hs hown 1 c H cs hx hH (by rw [r.len hcs]; omega) (r.one hcs) (by unfold maxLen; omega) (Nat.le_trans (Nat.mul_le_mul (show xs.length + 1 ≤ 1000001 by omega) hby) (by omega)) (by omega) ?_
  intro v' w' h1 h2 h3 h4
  refine h v' w' (hnext v' w' h1 h2 ?_) h2 h3
  rcases h4 with h4 | h4
  · exact .inl h4
  · exact .inr ⟨_, h4, by omega⟩
end
end Go.Proofs.Ytmbilaepeekglaa
