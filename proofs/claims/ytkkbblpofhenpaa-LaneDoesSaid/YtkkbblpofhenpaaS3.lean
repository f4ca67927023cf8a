/- Lemmas, walks and contracts that the statements of this seat are proved by. -/
import Derived.Test.YtkkbblpofhenpaaS2
import Derived.Deep.DeepCutAuto
import Derived.Laws.EntriesVeiled
import Derived.Test.YtkkbblpofhenpaaS1
import Derived.Deep.RegionLaw
import Derived.Deep.DrawnRows
import Derived.Deep.CutBlock
import Derived.Laws.Sem
import Derived.OrdersHeld
/- piece.Decode -/
namespace Go.Proofs.Ytkkbblpofhenpaa
open Go.RowKit

/-- While a piece is read: its cells are block gp; the result's cells are block R. -/
structure DInv (g gn gc lo gp R : Nat) (w0 w : World) (l : List Int) (cs : Array Value) : Prop where
  re : RE g gn gc lo w0 w l
  p : w.heap[gp]? = some (.cells cs 79 (0, 0))
  res : w.heap[R]? = some (.cells #[.int .i64 0, .int .i64 0, .int .i64 0, .slice none 0 0, .slice none 0 0, .slice none 0 0] 79 (0, 0))
  hp : gc < gp
  hR : R < g

theorem grown_keep {w w' : World} {g b : Nat} (h : w.grownBy w' (some g)) (hb : b < w.heap.size) (hne : b ≠ g) : w'.heap[b]? = w.heap[b]? := h.block b hb (fun e => hne (by injection e))

theorem DInv.step {g gn gc lo gp R : Nat} {w0 w w' : World} {l l' : List Int} {cs : Array Value} (h : DInv g gn gc lo gp R w0 w l cs) (hs : Step g lo w w' l') : DInv g gn gc lo gp R w0 w' l' cs := by
  have := h.re.env.lt
  have := h.re.env.ltc
  have := h.hp
  have := h.hR
  exact ⟨h.re.step hs, grown_cell hs.only h.p (by omega), grown_cell hs.only h.res (by omega), h.hp, h.hR⟩
theorem DInv.set_ {g gn gc lo gp R : Nat} {w0 w : World} {l : List Int} {cs : Array Value} (h : DInv g gn gc lo gp R w0 w l cs) (hw0 : w0.heap.size ≤ gp) (i : Nat) (u : Value) : DInv g gn gc lo gp R w0 (w.setCell ⟨gp, i, none⟩ u) l (cs.setIfInBounds i u) := by
  have h1 := h.re.env.lt
  have h2 := h.re.env.ltc
  have h3 := h.hp
  have h4 := h.hR
  have far : ∀ b, b < gp → (w.setCell ⟨gp, i, none⟩ u).heap[b]? = w.heap[b]? := fun b hb => heap_setCell_other _ _ _ _ (by simp; omega)
  exact ⟨⟨⟨(far gn (by omega)).trans h.re.env.n, (far gc (by omega)).trans h.re.env.c, h1, h2⟩, h.re.rdr.far (fun b hb => far b (by omega)), grown_new h.re.only hw0 u⟩, blk_set h.p i u, (far R (by omega)).trans h.res, h3, h4⟩

section
variable {g gn gc lo gp R : Nat} {w0 w : World} {l : List Int} {cs : Array Value}
theorem DInv.drew (h : DInv g gn gc lo gp R w0 w l cs) : DInv g gn gc lo gp R w0 w.drew l cs :=
  ⟨⟨⟨h.re.env.n, h.re.env.c, h.re.env.lt, h.re.env.ltc⟩, h.re.rdr.far (fun _ _ => rfl), grown_trans h.re.only ⟨rfl, rfl, rfl, Nat.le_refl _, fun _ _ _ => rfl⟩⟩, h.p, h.res, h.hp, h.hR⟩
theorem DInv.cell (h : DInv g gn gc lo gp R w0 w l cs) (i : Nat) : w.cell? ⟨gp, i, none⟩ = cs[i]? := blk_cell h.p i
theorem DInv.free (h : DInv g gn gc lo gp R w0 w l cs) (i : Nat) : w.frozen? ⟨gp, i, none⟩ = false := by simp [World.frozen?, h.p]
theorem DInv.lt (h : DInv g gn gc lo gp R w0 w l cs) : gc < w.heap.size := by have := lt_of_block h.p; have := h.hp; omega
variable {a b c d e f : Value}
theorem DInv.set4 (h : DInv g gn gc lo gp R w0 w l #[a, b, c, d, e, f]) (hw0 : w0.heap.size ≤ gp) (u : Value) : DInv g gn gc lo gp R w0 (w.setCell ⟨gp, 4, none⟩ u) l #[a, b, c, d, u, f] := h.set_ hw0 4 u
theorem DInv.set5 (h : DInv g gn gc lo gp R w0 w l #[a, b, c, d, e, f]) (hw0 : w0.heap.size ≤ gp) (u : Value) : DInv g gn gc lo gp R w0 (w.setCell ⟨gp, 5, none⟩ u) l #[a, b, c, d, e, u] := h.set_ hw0 5 u
end
/-- Blocks above gp have not turned. -/
def Keeps (gp : Nat) (w w' : World) : Prop := w.heap.size ≤ w'.heap.size ∧ ∀ b, gp < b → b < w.heap.size → w'.heap[b]? = w.heap[b]?
theorem Keeps.trans {gp : Nat} {a b c : World} (h : Keeps gp a b) (h' : Keeps gp b c) : Keeps gp a c :=
  ⟨Nat.le_trans h.1 h'.1, fun k h1 h2 => (h'.2 k h1 (Nat.lt_of_lt_of_le h2 h.1)).trans (h.2 k h1 h2)⟩
theorem Keeps.step {g lo gp : Nat} {w w' : World} {l : List Int} (hs : Step g lo w w' l) (h : g < gp) : Keeps gp w w' := ⟨hs.only.size, fun b h1 h2 => grown_keep hs.only h2 (by omega)⟩
theorem Keeps.set_ (gp i : Nat) (w : World) (u : Value) : Keeps gp w (w.setCell ⟨gp, i, none⟩ u) := ⟨by simp [World.setCell], fun b h1 _ => heap_setCell_other _ _ _ _ (by simp; omega)⟩
theorem Keeps.set' {gp : Nat} {w w' : World} (h : Keeps gp w w') {p : Addr} (hp : p.block ≤ gp) (u : Value) : Keeps gp w (w'.setCell p u) :=
  ⟨by have := h.1; simpa [World.setCell] using this, fun b h1 h2 => (heap_setCell_other _ _ _ _ (by omega)).trans (h.2 b h1 h2)⟩
section
variable {w : World} {R : Nat} {T : TypeId} {a b c d e f : Value}
theorem six_cells (h : w.heap[R]? = some (.cells #[a, b, c, d, e, f] T (0, 0))) : w.cell? ⟨R, 0, none⟩ = some a ∧ w.cell? ⟨R, 1, none⟩ = some b ∧ w.cell? ⟨R, 2, none⟩ = some c ∧ w.cell? ⟨R, 3, none⟩ = some d ∧ w.cell? ⟨R, 4, none⟩ = some e ∧ w.cell? ⟨R, 5, none⟩ = some f :=
  ⟨blk_cell h 0, blk_cell h 1, blk_cell h 2, blk_cell h 3, blk_cell h 4, blk_cell h 5⟩
theorem six_free (h : w.heap[R]? = some (.cells #[a, b, c, d, e, f] T (0, 0))) : w.frozen? ⟨R, 0, none⟩ = false ∧ w.frozen? ⟨R, 1, none⟩ = false ∧ w.frozen? ⟨R, 2, none⟩ = false ∧ w.frozen? ⟨R, 3, none⟩ = false ∧ w.frozen? ⟨R, 4, none⟩ = false ∧ w.frozen? ⟨R, 5, none⟩ = false := by
  have k : ∀ i, w.frozen? ⟨R, i, none⟩ = false := fun i => by simp [World.frozen?, h]
  exact ⟨k 0, k 1, k 2, k 3, k 4, k 5⟩
theorem six_set (h : w.heap[R]? = some (.cells #[a, b, c, d, e, f] T (0, 0))) (a' b' c' d' e' f' : Value) :
    ((((((w.setCell ⟨R, 0, none⟩ a').setCell ⟨R, 1, none⟩ b').setCell ⟨R, 2, none⟩ c').setCell ⟨R, 3, none⟩ d').setCell ⟨R, 4, none⟩ e').setCell ⟨R, 5, none⟩ f').heap[R]? = some (.cells #[a', b', c', d', e', f'] T (0, 0)) :=
  blk_set (blk_set (blk_set (blk_set (blk_set (blk_set h 0 a') 1 b') 2 c') 3 d') 4 e') 5 f'
theorem six_below {B : Nat} {w0 : World} (h : Below B w0 w) (hR : B ≤ R) (a' b' c' d' e' f' : Value) :
    Below B w0 ((((((w.setCell ⟨R, 0, none⟩ a').setCell ⟨R, 1, none⟩ b').setCell ⟨R, 2, none⟩ c').setCell ⟨R, 3, none⟩ d').setCell ⟨R, 4, none⟩ e').setCell ⟨R, 5, none⟩ f') :=
  (((((h.setCell hR _).setCell hR _).setCell hR _).setCell hR _).setCell hR _).setCell hR _
theorem six_keeps {gp : Nat} {w0 : World} (h : Keeps gp w0 w) (hR : R ≤ gp) (a' b' c' d' e' f' : Value) :
    Keeps gp w0 ((((((w.setCell ⟨R, 0, none⟩ a').setCell ⟨R, 1, none⟩ b').setCell ⟨R, 2, none⟩ c').setCell ⟨R, 3, none⟩ d').setCell ⟨R, 4, none⟩ e').setCell ⟨R, 5, none⟩ f') :=
  (((((h.set' hR _).set' hR _).set' hR _).set' hR _).set' hR _).set' hR _
end
theorem Keeps.below {gp : Nat} {w w' : World} (h : Below w.heap.size w w') : Keeps gp w w' := ⟨h.size, fun b _ h2 => h.block b h2⟩
theorem Keeps.slice {gp : Nat} {w w' : World} {α : Type} {r : Rep α} {fr : Bool} {lo hi : Nat} {v : Value} {xs : List α} (h : Keeps gp w w') (hs : SliceIs r fr w lo hi v xs) (hlo : gp < lo) (hhi : hi ≤ w.heap.size) : SliceIs r fr w' lo hi v xs :=
  hs.keep fun b h1 h2 => h.2 b (by omega) (by omega)

/-- While a piece's first numbers are read: its block may be there already. -/
structure Inv6 (g gn gc lo R : Nat) (w0 : World) (P : Option Nat) (w : World) (l : List Int) : Prop where
  re : RE g gn gc lo w0 w l
  p : ∀ gp, P = some gp → w.heap[gp]? = some (.cells #[.int .i64 0, .int .i64 0, .int .i64 0, .slice none 0 0, .slice none 0 0, .slice none 0 0] 79 (0, 0)) ∧ gc < gp ∧ w0.heap.size ≤ gp
  res : w.heap[R]? = some (.cells #[.int .i64 0, .int .i64 0, .int .i64 0, .slice none 0 0, .slice none 0 0, .slice none 0 0] 79 (0, 0))
  hR : R < g
  hc : gc < w.heap.size
section
variable {g gn gc lo R : Nat} {w0 w : World} {P : Option Nat} {l : List Int}
theorem Inv6.drew (h : Inv6 g gn gc lo R w0 P w l) : Inv6 g gn gc lo R w0 P w.drew l :=
  ⟨⟨⟨h.re.env.n, h.re.env.c, h.re.env.lt, h.re.env.ltc⟩, h.re.rdr.far (fun _ _ => rfl), grown_trans h.re.only ⟨rfl, rfl, rfl, Nat.le_refl _, fun _ _ _ => rfl⟩⟩, h.p, h.res, h.hR, h.hc⟩
theorem Inv6.alloc (h : Inv6 g gn gc lo R w0 none w l) : Inv6 g gn gc lo R w0 (some w.heap.size) (w.alloc (.cells #[.int .i64 0, .int .i64 0, .int .i64 0, .slice none 0 0, .slice none 0 0, .slice none 0 0] 79)) l := by
  have a := h.re.env.lt
  have b := h.re.env.ltc
  have c := h.hR
  have d := h.hc
  have hb : Below w.heap.size w (w.alloc (.cells #[.int .i64 0, .int .i64 0, .int .i64 0, .slice none 0 0, .slice none 0 0, .slice none 0 0] 79)) := (Below.refl _ _).alloc (Nat.le_refl _) _
  refine ⟨⟨⟨(hb.block gn (by omega)).trans h.re.env.n, (hb.block gc d).trans h.re.env.c, a, b⟩, h.re.rdr.below hb (by omega), grown_trans h.re.only (grown_of_below hb)⟩, ?_, (hb.block R (by omega)).trans h.res, c, by simp; omega⟩
  rintro gp e
  injection e with e
  subst e
  exact ⟨heap_alloc_new _ _, d, h.re.only.size⟩
theorem Inv6.cells (h : Inv6 g gn gc lo R w0 P w l) (gp : Nat) (e : P = some gp) : w.cell? ⟨gp, 0, none⟩ = some (.int .i64 0) ∧ w.cell? ⟨gp, 1, none⟩ = some (.int .i64 0) ∧ w.cell? ⟨gp, 2, none⟩ = some (.int .i64 0) ∧ w.cell? ⟨gp, 3, none⟩ = some (.slice none 0 0) ∧ w.cell? ⟨gp, 4, none⟩ = some (.slice none 0 0) ∧ w.cell? ⟨gp, 5, none⟩ = some (.slice none 0 0) ∧ w.frozen? ⟨gp, 0, none⟩ = false ∧ w.frozen? ⟨gp, 1, none⟩ = false ∧ w.frozen? ⟨gp, 2, none⟩ = false ∧ w.frozen? ⟨gp, 3, none⟩ = false ∧ w.frozen? ⟨gp, 4, none⟩ = false ∧ w.frozen? ⟨gp, 5, none⟩ = false := by
  have h1 := (h.p gp e).1
  have f : ∀ i, w.frozen? ⟨gp, i, none⟩ = false := fun i => by simp [World.frozen?, h1]
  exact ⟨blk_cell h1 0, blk_cell h1 1, blk_cell h1 2, blk_cell h1 3, blk_cell h1 4, blk_cell h1 5, f 0, f 1, f 2, f 3, f 4, f 5⟩
end

end Go.Proofs.Ytkkbblpofhenpaa

/- A slice of the call's own that grows, whatever its elements lead to. Nothing of the program. -/
namespace Go.Proofs.Ytkkbblpofhenpaa
open Go.RowKit

/-- v: a row of the call's own, in blocks from B on, that reads as xs. -/
def Acc {α : Type} (r : Rep α) (e : TypeId) (B : Nat) (w : World) (v : Value) (xs : List α) : Prop :=
  ∃ cells S, w.ownsRow B e r.size v xs.length cells ∧ r.all true w S cells xs ∧ (∀ b, S b → B ≤ b ∧ b < w.heap.size) ∧ (∀ b, v.ownBlock = some b → ¬ S b)

section
variable {α : Type} {r : Rep α} {e : TypeId} {B : Nat} {w w1 : World} {v : Value} {xs : List α} {x : α} {cs : List Value}
theorem Acc.nil (r : Rep α) (e : TypeId) (B : Nat) (w : World) : Acc r e B w (.slice none 0 0) [] :=
  ⟨[], fun _ => False, World.ownsRow_nil _ _ _ _, rfl, fun _ h => h.elim, fun _ h => by simp [Value.ownBlock] at h⟩
theorem Acc.empty (r : Rep α) (e : TypeId) (w : World) : Acc r e w.heap.size (w.alloc (.cells #[] e)) (.slice (some ⟨w.heap.size, 0, none⟩) 0 0) [] :=
  ⟨[], fun _ => False, own_lit (size := r.size) w.heap.size e 0 [] (by simp) (Nat.le_refl _) (by unfold maxLen; omega), rfl, fun _ h => h.elim, fun _ _ h => h⟩
theorem Acc.lt (h : Acc r e B w v xs) : ∀ b, v.ownBlock = some b → B ≤ b ∧ b < w.heap.size := by
  obtain ⟨cells, S, h1, _⟩ := h; exact h1.lt
theorem Acc.slice (h : Acc r e B w v xs) : SliceIs r true w B w.heap.size v xs := by
  obtain ⟨cells, S, h1, h2, h3, h4⟩ := h
  exact SliceOn.of_own (base := B) (e := e) h1 (Rep.all_widen (fun b hb => h3 b hb) h2) (fun b hb => h1.lt b hb)
theorem Acc.base {B' : Nat} (h : Acc r e B w v xs) (hB : B' ≤ B) : Acc r e B' w v xs := by
  obtain ⟨cells, S, h1, h2, h3, h4⟩ := h
  exact ⟨cells, S, own_base h1 hB, h2, fun b hb => ⟨Nat.le_trans hB (h3 b hb).1, (h3 b hb).2⟩, h4⟩
theorem own_move {size n : Nat} {cells : List Value} (h : w.ownsRow B e size v n cells) (hk : ∀ b, B ≤ b → b < w.heap.size → w1.heap[b]? = w.heap[b]?) : w1.ownsRow B e size v n cells := by
  refine ⟨h.1, ?_⟩
  rcases h.2 with h2 | ⟨g, cap, cur, hv, hg, hh, hr⟩
  · exact .inl h2
  · have hlt : g < w.heap.size := by
      rcases Nat.lt_or_ge g w.heap.size with h' | h'
      · exact h'
      · simp [Array.getElem?_eq_none h'] at hh
    exact .inr ⟨g, cap, cur, hv, hg, (hk g hg hlt).trans hh, hr⟩
theorem Acc.move (h : Acc r e B w v xs) (hk : ∀ b, B ≤ b → b < w.heap.size → w1.heap[b]? = w.heap[b]?) (hs : w.heap.size ≤ w1.heap.size) : Acc r e B w1 v xs := by
  obtain ⟨cells, S, h1, h2, h3, h4⟩ := h
  exact ⟨cells, S, own_move h1 hk, Rep.all_keep (fun b hb => hk b (h3 b hb).1 (h3 b hb).2) h2, fun b hb => ⟨(h3 b hb).1, Nat.lt_of_lt_of_le (h3 b hb).2 hs⟩, h4⟩
theorem Acc.below (h : Acc r e B w v xs) (hb : Below w.heap.size w w1) : Acc r e B w1 v xs := h.move (fun b _ h2 => hb.block b h2) hb.size
/-- One more element, which lies in what was made since. -/
theorem Acc.step (h : Acc r e B w v xs) (hk : ∀ b, B ≤ b → b < w.heap.size → w1.heap[b]? = w.heap[b]?) (hs : w.heap.size ≤ w1.heap.size) (hB : B ≤ w.heap.size) (hcs : r.is true w1 (rng w.heap.size w1.heap.size) cs x) :
    ∃ cells, w1.ownsRow B e r.size v xs.length cells ∧ (∀ v' w2, w2.ownsRow B e r.size v' (xs.length + 1) (cells ++ cs) → w1.grownBy w2 v.ownBlock → (v'.ownBlock = v.ownBlock ∨ ∃ n, v'.ownBlock = some n ∧ w1.heap.size ≤ n) → Acc r e B w2 v' (xs ++ [x])) := by
  obtain ⟨cells, S, h1, h2, h3, h4⟩ := h
  have own1 := own_move h1 hk
  have all1 : r.all true w1 S cells xs := Rep.all_keep (fun b hb => hk b (h3 b hb).1 (h3 b hb).2) h2
  refine ⟨cells, own1, fun v' w2 ho hg ha => ?_⟩
  have k1 : ∀ b, (S b ∨ rng w.heap.size w1.heap.size b) → w2.heap[b]? = w1.heap[b]? := by
    rintro b (hb | hb)
    · exact hg.block b (Nat.lt_of_lt_of_le (h3 b hb).2 hs) (fun he => h4 b he.symm hb)
    · refine hg.block b hb.2 (fun he => ?_)
      have := (h1.lt b he.symm).2
      have := hb.1
      omega
  have hnew : r.all true w2 (fun b => S b ∨ rng w.heap.size w1.heap.size b) (cells ++ cs) (xs ++ [x]) :=
    Rep.all_snoc (Rep.all_keep k1 (Rep.all_widen (fun b hb => .inl hb) all1)) (r.keep (r.widen hcs (fun b hb => .inr hb)) k1)
  refine ⟨cells ++ cs, _, by rw [List.length_append]; exact ho, hnew, ?_, ?_⟩
  · rintro b (hb | hb)
    · exact ⟨(h3 b hb).1, Nat.lt_of_lt_of_le (h3 b hb).2 (Nat.le_trans hs hg.size)⟩
    · exact ⟨by have := hb.1; omega, Nat.lt_of_lt_of_le hb.2 hg.size⟩
  · intro b hb hS
    rcases ha with ha | ⟨n, ha, hn⟩
    · rw [ha] at hb
      rcases hS with hS | hS
      · exact h4 b hb hS
      · have := (h1.lt b hb).2; have := hS.1; omega
    · rw [ha] at hb
      injection hb with hb
      subst hb
      rcases hS with hS | hS
      · have := (h3 _ hS).2; omega
      · have := hS.2; omega
end

section
variable {P : Program} {w : World} {ops : Array Oper} {rest : List Oper} {o : Oper} {a : Act} {Q : Exit → Act → World → Prop}
/-- 'append(s, x)': x's cells lie in a block made on the spot; what x leads to was made since 'w0'. -/
theorem wpList_accB {α : Type} {r : Rep α} {w0 : World} {xs : List α} {y : α} (hgd : o.guard = none) (s x : Operand) (t : TypeId) (ho : o.op = .call { callee := .builtin .append, args := #[s, x], argTypes := #[t, t] })
    (B : Nat) (e : TypeId) {z : Value} {bytes : Nat} (hinfo : (P.info? e).map (fun i => (i.zero, i.size, i.bytes)) = some (some z, r.size, bytes)) (ht : P.underlying t = some (.slice e))
    (hzs : z.cells.size = r.size) (hby : bytes ≤ 1000) (v : Value) (hs : a.eval s = v) (hacc : Acc r e B w0 v xs) (hk : ∀ b, B ≤ b → b < w0.heap.size → w.heap[b]? = w0.heap[b]?) (hsz : w0.heap.size ≤ w.heap.size) (hB : B ≤ w0.heap.size)
    (c H : Nat) (cs : List Value) (hx : a.eval x = .slice (some ⟨H, 0, none⟩) 1 c) (hH : w.heap.size = H) (hcs : r.is true w (rng w0.heap.size w.heap.size) cs y) (hn : xs.length ≤ 1000000)
    (h : ∀ v' w', Acc r e B w' v' (xs ++ [y]) → w.grownBy w' v.ownBlock → Below B w w' → wpList P ops Q rest (a.put o.dst v') w') : wpList P ops Q (o :: rest) a (w.alloc (.cells cs.toArray e)) := by
  obtain ⟨cells, hown, hnext⟩ := hacc.step hk hsz hB hcs
  refine wpList_appendB hgd s x t ho B e hinfo ht hzs r.pos v xs.length cells hs hown 1 c H cs hx hH (by rw [r.len hcs]; omega) (r.one hcs) (by unfold maxLen; omega) (Nat.le_trans (Nat.mul_le_mul (show xs.length + 1 ≤ 1000001 by omega) hby) (by omega)) (by omega) ?_
  intro v' w' h1 h2 h3 h4
  refine h v' w' (hnext v' w' h1 h2 ?_) h2 h3
  rcases h4 with h4 | h4
  · exact .inl h4
  · exact .inr ⟨_, h4, by omega⟩
end
end Go.Proofs.Ytkkbblpofhenpaa

/- slices.Clone, piece.own, piece.Own -/
namespace Go.Proofs.Ytkkbblpofhenpaa
open Go.RowKit

/-- Elements that lead nowhere. -/
def Rep.flat {α : Type} (r : Rep α) : Prop := ∀ {fr w S fr' w' S' cs a}, r.is fr w S cs a → r.is fr' w' S' cs a
theorem flat_int : Rep.int.flat := fun h => h
theorem flat_msg : Rep.msg.flat := fun h => h
theorem Rep.all_flat {α : Type} {r : Rep α} (hf : r.flat) {fr fr' : Bool} {w w' : World} {S S' : Nat → Prop} : ∀ {xs : List α} {cells : List Value}, r.all fr w S cells xs → r.all fr' w' S' cells xs := by
  intro xs
  induction xs with
  | nil => intro cells h; exact h
  | cons x xs ih =>
    intro cells h
    obtain ⟨cs, rest, rfl, h3, h4⟩ := h
    exact ⟨cs, rest, rfl, hf h3, ih h4⟩


/-- Block g holds the lists that are left, a slice of type T. -/
def RdrO {α : Type} (r : Rep α) (T : TypeId) (g : Nat) (w : World) (l : List (List α)) : Prop := ∃ v, w.heap[g]? = some (.cells #[v] T (0, 0)) ∧ SliceIs r.slice false w 0 g v l
theorem RdrO.far {α : Type} {r : Rep α} {T : TypeId} {g : Nat} {w w' : World} {l : List (List α)} (h : RdrO r T g w l) (hb : ∀ b, b ≤ g → w'.heap[b]? = w.heap[b]?) : RdrO r T g w' l := by
  obtain ⟨v, h1, h2⟩ := h
  exact ⟨v, (hb g (Nat.le_refl _)).trans h1, h2.keep fun b _ hb2 => hb b (by omega)⟩


namespace Pc
/-- Lists that are not too long to be copied. -/
def sized (p : Piece) : Prop := p.sent.length ≤ 1000000 ∧ p.inn.length ≤ 1000000 ∧ p.out.length ≤ 1000000 ∧ (∀ x ∈ p.inn, x.length ≤ 1000000) ∧ (∀ x ∈ p.out, x.length ≤ 1000000)
end Pc

end Go.Proofs.Ytkkbblpofhenpaa

/- The document's reader: (*Reader).next -/
namespace Go.Proofs.Ytkkbblpofhenpaa
open Go.RowKit

/-- Block g is a reader: 'l' is what is left; at most 'm' were read. -/
def RN (g lo : Nat) (w : World) (l : List Int) (m : Nat) : Prop :=
  ∃ (A : Option Addr) (c : Nat) (L : List Int) (at_ : Nat), w.heap[g]? = some (.cells #[.slice A L.length c, .int .i64 at_] 130 (0, 0)) ∧ L.length ≤ c ∧ c ≤ maxLen ∧ SliceAt Rep.int false w lo g A L ∧ l = L.drop at_ ∧ at_ ≤ m

theorem RN.far {g lo m : Nat} {w w' : World} {l : List Int} (h : RN g lo w l m) (hb : ∀ b, b ≤ g → w'.heap[b]? = w.heap[b]?) : RN g lo w' l m := by
  obtain ⟨A, c, L, at_, h1, h2, h3, h4, h5⟩ := h
  exact ⟨A, c, L, at_, (hb g (Nat.le_refl _)).trans h1, h2, h3, h4.keep fun b _ hb2 => hb b (by omega), h5⟩
theorem RN.lt {g lo m : Nat} {w : World} {l : List Int} (h : RN g lo w l m) : g < w.heap.size := by
  obtain ⟨A, c, L, at_, h1, _⟩ := h; exact lt_of_block h1

theorem RN.drewN {g lo m : Nat} {w : World} {l : List Int} (h : RN g lo w l m) (n : Nat) : RN g lo (w.drewN n) l m := h.far fun _ _ => rfl

end Go.Proofs.Ytkkbblpofhenpaa

/- The document's Right, for pieces. -/
namespace Go.Proofs.Ytkkbblpofhenpaa
open Go.RowKit

set_option maxRecDepth 100000 in
set_option maxHeartbeats 4000000 in
theorem rright_head (v : Value) (p : Pc.Piece) (w : World) (h : PieceIs false w 0 w.heap.size v p) (hh : Pc.okHead p = false) : Calls Try.prog 45 #[v] w
    fun x w' => x = .returned (.bool (Pc.right p)) ∧ Below w.heap.size w w' := by
  obtain ⟨n, s, t, xs, ms, os⟩ := p
  obtain ⟨a, b, c, rfl, ⟨A1, c1, rfl, l1, m1, h1⟩, ⟨A2, c2, rfl, l2, m2, h2⟩, ⟨A3, c3, rfl, l3, m3, h3⟩⟩ := h
  dsimp only at l1 l2 l3 h1 h2 h3 ⊢
  have e : Pc.right ⟨n, s, t, xs, ms, os⟩ = false := by unfold Pc.right; rw [hh]; rfl
  rw [e]
  unfold Pc.okHead at hh
  have hh' := of_decide_eq_false hh
  dsimp only at hh'
  clear hh e h1 h2 h3
  unfold maxLen at m1 m2 m3
  by_cases q0 : n < 0
  · clear hh'
    go_enter Try.func45, Try.ntmps45
    go_wp2_with fail
    go_ret
    exact ⟨rfl, (Below.refl _ _).alloc (Nat.le_refl _) _⟩
  ·
    by_cases q1 : 5 < n
    · clear hh'
      go_enter Try.func45, Try.ntmps45
      go_wp2_with fail
      go_ret
      exact ⟨rfl, (Below.refl _ _).alloc (Nat.le_refl _) _⟩
    ·
      by_cases q2 : s < 0
      · clear hh'
        go_enter Try.func45, Try.ntmps45
        go_wp2_with fail
        go_ret
        exact ⟨rfl, (Below.refl _ _).alloc (Nat.le_refl _) _⟩
      ·
        by_cases q3 : 7 < s
        · clear hh'
          go_enter Try.func45, Try.ntmps45
          go_wp2_with fail
          go_ret
          exact ⟨rfl, (Below.refl _ _).alloc (Nat.le_refl _) _⟩
        ·
          by_cases q4 : t < 0
          · clear hh'
            go_enter Try.func45, Try.ntmps45
            go_wp2_with fail
            go_ret
            exact ⟨rfl, (Below.refl _ _).alloc (Nat.le_refl _) _⟩
          ·
            by_cases q5 : 2147483647 < t
            · clear hh'
              go_enter Try.func45, Try.ntmps45
              go_wp2_with fail
              go_ret
              exact ⟨rfl, (Below.refl _ _).alloc (Nat.le_refl _) _⟩
            ·
              by_cases q6 : 5 < xs.length
              · clear hh'
                go_enter Try.func45, Try.ntmps45
                go_wp2_with fail
                go_ret
                exact ⟨rfl, (Below.refl _ _).alloc (Nat.le_refl _) _⟩
              ·
                by_cases q7 : 5 < ms.length
                · clear hh'
                  go_enter Try.func45, Try.ntmps45
                  go_wp2_with fail
                  go_ret
                  exact ⟨rfl, (Below.refl _ _).alloc (Nat.le_refl _) _⟩
                ·
                  have q8 : 5 < os.length := by omega
                  clear hh'
                  go_enter Try.func45, Try.ntmps45
                  go_wp2_with fail
                  go_ret
                  exact ⟨rfl, (Below.refl _ _).alloc (Nat.le_refl _) _⟩

set_option maxRecDepth 100000 in
set_option maxHeartbeats 8000000 in
theorem rright_tail (v : Value) (p : Pc.Piece) (w : World) (h : PieceIs false w 0 w.heap.size v p) (hh : Pc.okHead p = true) : Calls Try.prog 45 #[v] w
    fun x w' => x = .returned (.bool (Pc.right p)) ∧ Below w.heap.size w w' := by
  obtain ⟨n, s, t, xs, ms, os⟩ := p
  obtain ⟨a, b, c, rfl, ⟨A1, c1, rfl, l1, m1, h1⟩, ⟨A2, c2, rfl, l2, m2, h2⟩, ⟨A3, c3, rfl, l3, m3, h3⟩⟩ := h
  dsimp only at l1 l2 l3 h1 h2 h3 ⊢
  have e : Pc.right ⟨n, s, t, xs, ms, os⟩ = (xs.all (fun n => Pc.within n 0 500) && (ms.all (Pc.rising 0) && os.all Pc.okOut)) := by unfold Pc.right; rw [hh]; rfl
  unfold Pc.okHead at hh
  have hh' := of_decide_eq_true hh
  dsimp only at hh'
  clear hh
  obtain ⟨⟨q1, q1'⟩, ⟨q2, q2'⟩, ⟨q3, q3'⟩, q4, q5, q6⟩ := hh'
  generalize hr : Pc.right ⟨n, s, t, xs, ms, os⟩ = r at e ⊢
  have HE := Lib.hid e; clear e hr
  have hb0 : Below w.heap.size w (w.alloc (.cells #[.int .i64 n, .int .i64 s, .int .i64 t, .slice A1 xs.length c1, .slice A2 ms.length c2, .slice A3 os.length c3] 84)) := (Below.refl _ _).alloc (Nat.le_refl _) _
  unfold maxLen at m1 m2 m3
  go_enter Try.func45, Try.ntmps45
  go_wp2_with fail
  generalize hW : w.alloc (.cells #[.int .i64 n, .int .i64 s, .int .i64 t, .slice A1 xs.length c1, .slice A2 ms.length c2, .slice A3 os.length c3] 84) = W at hb0
  have hsz : W.heap.size = w.heap.size + 1 := by rw [← hW]; simp
  have k3 : W.cell? ⟨w.heap.size, 3, none⟩ = some (.slice A1 xs.length c1) := by rw [← hW]; simp [go_sem]
  have k4 : W.cell? ⟨w.heap.size, 4, none⟩ = some (.slice A2 ms.length c2) := by rw [← hW]; simp [go_sem]
  have k5 : W.cell? ⟨w.heap.size, 5, none⟩ = some (.slice A3 os.length c3) := by rw [← hW]; simp [go_sem]
  clear hW
  replace h1 := h1.below hb0 (Nat.le_refl _)
  replace h2 := h2.below hb0 (Nat.le_refl _)
  replace h3 := h3.below hb0 (Nat.le_refl _)
  have HSZ := Lib.hid hsz; clear hsz
  have HK3 := Lib.hid k3; clear k3
  have HK4 := Lib.hid k4; clear k4
  have HK5 := Lib.hid k5; clear k5
  go_loopg [3] xs.length (fun k i wr => PrR Int (fun n => Pc.within n 0 500) xs W k i wr)
  case atStart => exact ⟨0, rfl, by omega, by omega, Pc.good_zero _ _, Below.refl _ _⟩
  case round =>
    obtain ⟨j, rfl, hj, hk, hr, hb⟩ := hrel
    have HR := Lib.hid hr; clear hr
    have HK := Lib.hid hk; clear hk
    have k3 := (hb.cell (p := ⟨w.heap.size, 3, none⟩) (by have := HSZ.out; simp; omega)).trans HK3.out
    by_cases hlt : j < xs.length
    · obtain ⟨x, hx⟩ := Pc.get_at hlt
      obtain ⟨g, o, rfl, _, hg, c0⟩ := (h1.below hb (by have := HSZ.out; omega)).int hx
      have HX := Lib.hid hx; clear hx
      clear h1 h2 h3
      by_cases q : x < 0
      · go_wp2_with fail
        go_ret
        exact ⟨by rw [HE.out, Pc.bad_all (b := fun n => Pc.within n 0 500) HX.out (Pc.within_no (by omega))]; rfl, hb0.trans (hb.mono (by have := HSZ.out; omega))⟩
      · by_cases q' : 500 < x
        · go_wp2_with fail
          go_ret
          exact ⟨by rw [HE.out, Pc.bad_all (b := fun n => Pc.within n 0 500) HX.out (Pc.within_no (by omega))]; rfl, hb0.trans (hb.mono (by have := HSZ.out; omega))⟩
        · go_wp2_with fail
          go_roundg (xs.length - (j + 1))
          case rel => exact ⟨j + 1, by simp, by omega, rfl, Pc.good_next HR.out HX.out (Pc.within_yes (by omega)), hb⟩
          case measure => have := HK.out; omega
    · have hj2 : j = xs.length := by omega
      subst hj2
      have e1 := Pc.good_all HR.out
      rw [e1, Bool.true_and] at HE
      clear HR e1 HK hlt hj h1
      go_wp2_with fail
      clear k3
      go_loopg [4, 5, 6, 7] ms.length (fun k i _ _ _ wr => PrR (List (Int × Int)) (Pc.rising 0) ms W k i wr)
      case atStart => exact ⟨0, rfl, by omega, by omega, Pc.good_zero _ _, hb⟩
      case round =>
        clear hb
        obtain ⟨j, rfl, hj, hk, hr, hb⟩ := hrel
        have HR := Lib.hid hr; clear hr
        have HK := Lib.hid hk; clear hk
        have k4 := (hb.cell (p := ⟨w.heap.size, 4, none⟩) (by have := HSZ.out; simp; omega)).trans HK4.out
        by_cases hlt : j < ms.length
        · obtain ⟨x, hx⟩ := Pc.get_at hlt
          obtain ⟨g, o, v, rfl, _, hg, c0, ⟨Ax, cx, rfl, lx, mx, hxa⟩⟩ := (h2.below hb (by have := HSZ.out; omega)).row hx
          have HX := Lib.hid hx; clear hx
          clear h2 h3
          unfold maxLen at mx
          go_wp2_with fail
          have KK4 := Lib.hid k4; clear k4
          have CC0 := Lib.hid c0; clear c0
          have hww : w.heap.size < wr.heap.size := by have := hb.size; have := HSZ.out; omega
          obtain ⟨wo, rfl⟩ : ∃ wo : World, wo = wr := ⟨_, rfl⟩
          go_loopg [5, 6, 7] x.length (fun k last i _ wr => ∃ (j2 : Nat) (lv : Int), i = .int .i64 (j2 : Int) ∧ j2 ≤ x.length ∧ k = x.length - j2 ∧ last = .int .i64 lv ∧ Pc.rising 0 x = Pc.rising lv (x.drop j2) ∧ Below wo.heap.size wo wr)
          case atStart => exact ⟨0, 0, rfl, by omega, by omega, rfl, rfl, Below.refl _ _⟩
          case round =>
            obtain ⟨j2, lv, rfl, hj2, hk2, rfl, hr2, hb2⟩ := hrel
            have HR2 := Lib.hid hr2; clear hr2
            have HK2 := Lib.hid hk2; clear hk2
            have k4 := (hb2.cell (p := ⟨w.heap.size, 4, none⟩) (by simpa using hww)).trans KK4.out
            have c0 := (hb2.cell (p := ⟨g, o + j, none⟩) (by simp; omega)).trans CC0.out
            have hbb := hb.trans (hb2.mono hb.size)
            by_cases hlt2 : j2 < x.length
            · obtain ⟨⟨sq, lt⟩, hm⟩ := Pc.get_at hlt2
              obtain ⟨gx, ox, rfl, _, hgx, d0, d1⟩ := (hxa.below hb2 (by omega)).msg hm
              rw [Pc.drop_at hm] at HR2
              clear hm hxa
              dsimp only at d0 d1
              have hno : ¬ (lv < sq ∧ sq ≤ 500 ∧ 0 ≤ lt ∧ lt ≤ 3) → r = false := fun h => by rw [HE.out, Pc.bad_all HX.out (by rw [HR2.out, Pc.rising_no h])]; rfl
              have HNO := Lib.hid hno; clear hno
              by_cases p1 : lv < sq
              · by_cases p2 : sq ≤ 500
                · by_cases p3 : 0 ≤ lt
                  · by_cases p4 : lt ≤ 3
                    · go_wp2_with fail
                      go_roundg (x.length - (j2 + 1))
                      case rel => exact ⟨j2 + 1, sq, by simp, by omega, rfl, rfl, by rw [HR2.out, Pc.rising_yes ⟨p1, p2, p3, p4⟩], hb2.alloc hb2.size _⟩
                      case measure => have := HK2.out; omega
                    · go_wp2_with fail
                      go_ret
                      exact ⟨by rw [HNO.out (by omega)]; rfl, (hb0.trans (hbb.mono (by have := HSZ.out; omega))).alloc (by have := hbb.size; have := HSZ.out; omega) _⟩
                  · go_wp2_with fail
                    go_ret
                    exact ⟨by rw [HNO.out (by omega)]; rfl, (hb0.trans (hbb.mono (by have := HSZ.out; omega))).alloc (by have := hbb.size; have := HSZ.out; omega) _⟩
                · go_wp2_with fail
                  go_ret
                  exact ⟨by rw [HNO.out (by omega)]; rfl, (hb0.trans (hbb.mono (by have := HSZ.out; omega))).alloc (by have := hbb.size; have := HSZ.out; omega) _⟩
              · go_wp2_with fail
                go_ret
                exact ⟨by rw [HNO.out (by omega)]; rfl, (hb0.trans (hbb.mono (by have := HSZ.out; omega))).alloc (by have := hbb.size; have := HSZ.out; omega) _⟩
            · have e2 : Pc.rising 0 x = true := by rw [HR2.out, List.drop_eq_nil_of_le (by omega)]; rfl
              have E2 := Lib.hid e2; clear e2
              go_wp2_with fail
              go_roundg (ms.length - (j + 1))
              case rel => exact ⟨j + 1, by simp, by omega, rfl, Pc.good_next HR.out HX.out E2.out, hbb⟩
              case measure => have := HK.out; omega
        · have hj2 : j = ms.length := by omega
          subst hj2
          have e1 := Pc.good_all HR.out
          rw [e1, Bool.true_and] at HE
          clear HR e1 HK hlt hj h2
          go_wp2_with fail
          clear k4
          go_loopg [8, 9] os.length (fun k i _ wr => PrR (List Int) Pc.okOut os W k i wr)
          case atStart => exact ⟨0, rfl, by omega, by omega, Pc.good_zero _ _, hb⟩
          case round =>
            clear hb
            obtain ⟨j, rfl, hj, hk, hr, hb⟩ := hrel
            have HR := Lib.hid hr; clear hr
            have HK := Lib.hid hk; clear hk
            have k5 := (hb.cell (p := ⟨w.heap.size, 5, none⟩) (by have := HSZ.out; simp; omega)).trans HK5.out
            by_cases hlt : j < os.length
            · obtain ⟨x, hx⟩ := Pc.get_at hlt
              obtain ⟨g, o, v, rfl, _, hg, c0, ⟨Ax, cx, rfl, lx, mx, hxa⟩⟩ := (h3.below hb (by have := HSZ.out; omega)).row hx
              have HX := Lib.hid hx; clear hx
              clear h3
              unfold maxLen at mx
              by_cases q : x.length ≤ 500
              · go_wp2_with fail
                have KK5 := Lib.hid k5; clear k5
                have CC0 := Lib.hid c0; clear c0
                have hww : w.heap.size < wr.heap.size := by have := hb.size; have := HSZ.out; omega
                obtain ⟨wo, rfl⟩ : ∃ wo : World, wo = wr := ⟨_, rfl⟩
                go_loopg [9] x.length (fun k i wr => PrR Int (fun n => Pc.within n 0 3) x wo k i wr)
                case atStart => exact ⟨0, rfl, by omega, by omega, Pc.good_zero _ _, Below.refl _ _⟩
                case round =>
                  obtain ⟨j2, rfl, hj2, hk2, hr2, hb2⟩ := hrel
                  have HR2 := Lib.hid hr2; clear hr2
                  have HK2 := Lib.hid hk2; clear hk2
                  have k5 := (hb2.cell (p := ⟨w.heap.size, 5, none⟩) (by simpa using hww)).trans KK5.out
                  have c0 := (hb2.cell (p := ⟨g, o + j, none⟩) (by simp; omega)).trans CC0.out
                  have hbb := hb.trans (hb2.mono hb.size)
                  by_cases hlt2 : j2 < x.length
                  · obtain ⟨y, hy⟩ := Pc.get_at hlt2
                    obtain ⟨gx, ox, rfl, _, hgx, d0⟩ := (hxa.below hb2 (by omega)).int hy
                    have hno : ¬ (0 ≤ y ∧ y ≤ 3) → r = false := fun h => by rw [HE.out, Pc.bad_all HX.out (by unfold Pc.okOut; rw [Pc.bad_all (b := fun n => Pc.within n 0 3) hy (Pc.within_no h), Bool.and_false])]
                    have HNO := Lib.hid hno; clear hno
                    have HY := Lib.hid hy; clear hy hxa
                    by_cases p1 : y < 0
                    · go_wp2_with fail
                      go_ret
                      exact ⟨by rw [HNO.out (by omega)]; rfl, hb0.trans (hbb.mono (by have := HSZ.out; omega))⟩
                    · by_cases p2 : 3 < y
                      · go_wp2_with fail
                        go_ret
                        exact ⟨by rw [HNO.out (by omega)]; rfl, hb0.trans (hbb.mono (by have := HSZ.out; omega))⟩
                      · go_wp2_with fail
                        go_roundg (x.length - (j2 + 1))
                        case rel => exact ⟨j2 + 1, by simp, by omega, rfl, Pc.good_next HR2.out HY.out (Pc.within_yes (by omega)), hb2⟩
                        case measure => have := HK2.out; omega
                  · have e2 : Pc.okOut x = true := by
                      have hj3 : j2 = x.length := by omega
                      subst hj3
                      unfold Pc.okOut; rw [Pc.good_all HR2.out, Bool.and_true]; exact decide_eq_true q
                    have E2 := Lib.hid e2; clear e2
                    go_wp2_with fail
                    go_roundg (os.length - (j + 1))
                    case rel => exact ⟨j + 1, by simp, by omega, rfl, Pc.good_next HR.out HX.out E2.out, hbb⟩
                    case measure => have := HK.out; omega
              · go_wp2_with fail
                go_ret
                exact ⟨by rw [HE.out, Pc.bad_all HX.out (by unfold Pc.okOut; rw [decide_eq_false q, Bool.false_and])]; rfl, hb0.trans (hb.mono (by have := HSZ.out; omega))⟩
            · have hj2 : j = os.length := by omega
              subst hj2
              have e1 := Pc.good_all HR.out
              rw [e1] at HE
              clear HR e1 HK hlt hj h3
              go_wp2_with fail
              go_ret
              exact ⟨by rw [HE.out]; rfl, hb0.trans (hb.mono (by have := HSZ.out; omega))⟩

theorem rright_any (v : Value) (p : Pc.Piece) (w : World) (h : PieceIs false w 0 w.heap.size v p) : Calls Try.prog 45 #[v] w
    fun x w' => x = .returned (.bool (Pc.right p)) ∧ Below w.heap.size w w' := by
  cases hh : Pc.okHead p
  · exact rright_head v p w h hh
  · exact rright_tail v p w h hh
end Go.Proofs.Ytkkbblpofhenpaa

/- The document's Decode, for pieces. -/
namespace Go.Proofs.Ytkkbblpofhenpaa
open Go.RowKit

/-- While a piece is read: the reader is block g, the piece's cells are block gp. -/
structure QInv (g lo gp : Nat) (W w : World) (l : List Int) (m : Nat) (cs : Array Value) : Prop where
  rn : RN g lo w l m
  p : w.heap[gp]? = some (.cells cs 84 (0, 0))
  hp : g < gp
  low : Below g W w
section
variable {g lo gp m : Nat} {W w w' : World} {l l' : List Int} {cs : Array Value} {a b c d e f : Value}
theorem QInv.step (h : QInv g lo gp W w l m cs) (hr : RN g lo w' l' (m + 1)) (hg : w.grownBy w' (some g)) : QInv g lo gp W w' l' (m + 1) cs :=
  ⟨hr, grown_cell hg h.p (by have := h.hp; omega), h.hp, h.low.trans ⟨hg.os, hg.tape, hg.output, hg.size, fun k hk => hg.block k (Nat.lt_trans hk h.rn.lt) (by intro e; injection e; omega)⟩⟩
theorem QInv.below (h : QInv g lo gp W w l m cs) (hb : Below w.heap.size w w') : QInv g lo gp W w' l m cs :=
  ⟨h.rn.far (fun b hb2 => hb.block b (by have := h.rn.lt; omega)), (hb.block _ (lt_of_block h.p)).trans h.p, h.hp, h.low.trans (hb.mono (Nat.le_of_lt h.rn.lt))⟩
/-- What append leaves: a row above gp has turned. -/
theorem QInv.above (h : QInv g lo gp W w l m cs) (hb : Below (gp + 1) w w') : QInv g lo gp W w' l m cs :=
  ⟨h.rn.far (fun b hb2 => hb.block b (by have := h.hp; omega)), (hb.block gp (by omega)).trans h.p, h.hp, h.low.trans (hb.mono (by have := h.hp; omega))⟩
theorem QInv.drew (h : QInv g lo gp W w l m cs) : QInv g lo gp W w.drew l m cs := h.below ((Below.refl _ _).drew)
theorem QInv.set_ (h : QInv g lo gp W w l m cs) (i : Nat) (u : Value) : QInv g lo gp W (w.setCell ⟨gp, i, none⟩ u) l m (cs.setIfInBounds i u) :=
  ⟨h.rn.far (fun b hb => heap_setCell_other _ _ _ _ (by have := h.hp; simp; omega)), blk_set h.p i u, h.hp, h.low.setCell (by have := h.hp; simp; omega) _⟩
theorem QInv.set4 (h : QInv g lo gp W w l m #[a, b, c, d, e, f]) (u : Value) : QInv g lo gp W (w.setCell ⟨gp, 4, none⟩ u) l m #[a, b, c, d, u, f] := h.set_ 4 u
theorem QInv.set5 (h : QInv g lo gp W w l m #[a, b, c, d, e, f]) (u : Value) : QInv g lo gp W (w.setCell ⟨gp, 5, none⟩ u) l m #[a, b, c, d, e, u] := h.set_ 5 u
theorem QInv.lt (h : QInv g lo gp W w l m cs) : gp < w.heap.size := lt_of_block h.p
theorem QInv.more (h : QInv g lo gp W w l m cs) {m' : Nat} (hm : m ≤ m') : QInv g lo gp W w l m' cs := by
  obtain ⟨A, c, L, at_, h1, h2, h3, h4, h5, h6⟩ := h.rn
  exact ⟨⟨A, c, L, at_, h1, h2, h3, h4, h5, Nat.le_trans h6 hm⟩, h.p, h.hp, h.low⟩
end
theorem Keeps.grown {gp g : Nat} {W w w' : World} (h : Keeps gp W w) (hg : w.grownBy w' (some g)) (hlt : g < gp) : Keeps gp W w' := h.trans ⟨hg.size, fun b h1 h2 => grown_keep hg h2 (by omega)⟩
theorem Keeps.above {gp B : Nat} {W w w' : World} (h : Keeps gp W w) (hb : Below B w w') (hB : W.heap.size ≤ B) : Keeps gp W w' := ⟨Nat.le_trans h.1 hb.size, fun b h1 h2 => (hb.block b (by omega)).trans (h.2 b h1 h2)⟩
theorem Keeps.refl (gp : Nat) (w : World) : Keeps gp w w := ⟨Nat.le_refl _, fun _ _ _ => rfl⟩
theorem cnt_lt (most : Int) (l : List Int) (j : Nat) (hm : 0 ≤ most) : ((j : Int) < (Pc.nx l).1 ∧ (j : Int) < most) ↔ j < (Pc.cnt most l).1.toNat := by
  simp only [Pc.cnt]; omega

end Go.Proofs.Ytkkbblpofhenpaa

/- cameolaw06.Ref, Refs -/
namespace Go.Proofs.Ytkkbblpofhenpaa
open Go.RowKit

set_option maxRecDepth 100000 in
set_option maxHeartbeats 2000000 in
theorem ref_any (v : Value) (p : Pc.Piece) {fr : Bool} {lo hi : Nat} (w : World) (h : PieceIs fr w lo hi v p) : Calls Try.prog 41 #[v] w
    fun x w' => x = .returned v ∧ Below w.heap.size w w' := by
  obtain ⟨n, s, t, xs, ms, os⟩ := p
  obtain ⟨a, b, c, rfl, ⟨A1, c1, rfl, _⟩, ⟨A2, c2, rfl, _⟩, ⟨A3, c3, rfl, _⟩⟩ := h
  go_enter Try.func41, Try.ntmps41
  go_wp2_with fail
  refine bodyPost_ret (v := .agg #[.int .i64 n, .int .i64 s, .int .i64 t, .slice A1 xs.length c1, .slice A2 ms.length c2, .slice A3 os.length c3]) (by simp [results, Try.results41, go_sem]) rfl ⟨rfl, below_2 _ _ _⟩
end Go.Proofs.Ytkkbblpofhenpaa

/- What a run reads: what yields the same value in every world that has grown by new blocks alone. Nothing of the program. -/
namespace Go.Proofs.Ytkkbblpofhenpaa
open Go.RowKit

/-- w' is w with more blocks. -/
structure Ext (w w' : World) : Prop where
  size : w.heap.size ≤ w'.heap.size
  block : ∀ b, b < w.heap.size → w'.heap[b]? = w.heap[b]?
theorem Ext.refl (w : World) : Ext w w := ⟨Nat.le_refl _, fun _ _ => rfl⟩
theorem Ext.trans {a b c : World} (h : Ext a b) (h' : Ext b c) : Ext a c := ⟨Nat.le_trans h.size h'.size, fun k hk => (h'.block k (Nat.lt_of_lt_of_le hk h.size)).trans (h.block k hk)⟩
theorem Ext.some {w w' : World} (h : Ext w w') {b : Nat} {o : Obj} (hb : w.heap[b]? = some o) : w'.heap[b]? = some o := by
  rw [h.block b (Array.getElem?_eq_some_iff.1 hb).1, hb]

/-- A run that reads alone. -/
def Stab (P : Program) {α : Type} (s : Sem α) : Prop := ∀ w v w1, s.run P w = .ok v w1 → ∀ w', Ext w w' → s.run P w' = .ok v w'
/-- A run that makes new blocks, and else reads alone. -/
def Grow (P : Program) {α : Type} (s : Sem α) : Prop := ∀ w v w1, s.run P w = .ok v w1 → Ext w w1
/-- A run that never yields. -/
def Dead (P : Program) {α : Type} (s : Sem α) : Prop := ∀ w v w1, s.run P w ≠ .ok v w1
section
variable {P : Program} {α β : Type}
theorem Stab.pure (v : α) : Stab P (Pure.pure v : Sem α) := by
  intro w v' w1 h w' _
  rw [Sem.run_pure] at h ⊢
  injection h with h1 _
  rw [h1]
theorem Stab.bind {s : Sem α} {f : α → Sem β} (h : Stab P s) (hf : ∀ v, Stab P (f v)) : Stab P (s >>= f) := by
  intro w v w1 hr w' he
  rw [Sem.run_bind] at hr ⊢
  cases hs : s.run P w with
  | ok a w2 =>
    rw [hs] at hr
    have e := h w a w2 hs w (Ext.refl w)
    rw [hs] at e
    injection e with _ e
    subst e
    rw [h w2 a w2 hs w' he]
    exact hf a w2 v w1 hr w' he
  | halt x w2 => rw [hs] at hr; cases hr
theorem Dead.stab {s : Sem α} (h : Dead P s) : Stab P s := fun w v w1 hr => absurd hr (h w v w1)
theorem Dead.halt (x : Halt) : Dead P (Sem.halt x : Sem α) := by intro w v w1 h; simp [Sem.run] at h
theorem Dead.bindR {s : Sem α} {f : α → Sem β} (h : ∀ v, Dead P (f v)) : Dead P (s >>= f) := by
  intro w v w1 hr
  rw [Sem.run_bind] at hr
  cases hs : s.run P w with
  | ok a w2 => rw [hs] at hr; exact h _ _ _ _ hr
  | halt x w2 => rw [hs] at hr; cases hr
theorem Dead.stuck (t : String) : Dead P (Go.stuck t : Sem α) := Dead.halt _
theorem Dead.unsupported (u : Unsupported) : Dead P (Go.unsupported u : Sem α) := Dead.halt _
theorem Dead.goPanic (v : Value) : Dead P (Go.goPanic v : Sem α) := Dead.halt _
theorem Dead.runtimePanic (e : RuntimeError) : Dead P (Go.runtimePanic e : Sem α) := by
  unfold Go.runtimePanic
  refine Dead.bindR fun p => ?_
  cases e <;> dsimp only
  case typeAssertion => exact Dead.bindR fun _ => Dead.bindR fun _ => Dead.goPanic _
  case panicNil => exact Dead.bindR fun _ => Dead.bindR fun _ => Dead.goPanic _
  all_goals exact Dead.goPanic _
theorem Dead.boundsPanic (k : IntKind) (x y : Int) (c : BoundsCode) : Dead P (Go.boundsPanic k x y c : Sem α) := by
  unfold Go.boundsPanic
  dsimp only
  split <;> exact Dead.bindR fun _ => Dead.runtimePanic _
theorem Stab.program : Stab P Go.program := by
  intro w v w1 h w' _
  simp only [Go.program, Sem.run] at h ⊢
  injection h with h1 _
  rw [h1]

theorem seen_ext {w w' : World} (he : Ext w w') {at_ k : Addr} {u : TypeId} {b : Bool} {r : Array Value × TypeId × (Nat × Nat) × Nat × Value × List (Nat × Nat × List UInt8)} (h : w.seen P at_ u k b = .ok r) : w'.seen P at_ u k b = .ok r := by
  unfold World.seen at h ⊢
  cases hb : w.heap[at_.block]? with
  | none =>
    exfalso
    revert h
    rw [hb]
    simp only [bind, Except.bind]
    repeat' split
    all_goals simp
  | some o =>
    rw [he.some hb]
    rw [hb] at h
    exact h
theorem farLoad_ext {w w' : World} (he : Ext w w') {a : Addr} {b : Bool} {r : Value × List Addr} (h : w.farLoad P a b = .ok r) : w'.farLoad P a b = .ok r := by
  unfold World.farLoad at h ⊢
  cases hb : w.heap[a.block]? with
  | none => rw [hb] at h; cases h
  | some o =>
    rw [he.some hb]
    rw [hb] at h
    cases o <;> dsimp only at h ⊢ <;> try (cases h; done)
    case view at_ u =>
      cases hv : w.viewLoad P at_ u a b with
      | error e => rw [hv] at h; cases h
      | ok x =>
        rw [hv] at h
        have e2 : w'.viewLoad P at_ u a b = .ok x := by
          unfold World.viewLoad at hv ⊢
          cases hs : w.seen P at_ u a b with
          | error e => rw [hs] at hv; cases hv
          | ok y => rw [seen_ext he hs]; rw [hs] at hv; exact hv
        rw [e2]; exact h
theorem Stab.load (a : Addr) : Stab P (Go.load a) := by
  intro w v w1 h w' he
  unfold Go.load at h ⊢
  simp only [Sem.run] at h ⊢
  cases hc : w.cell? a with
  | some x =>
    rw [hc] at h
    have : w'.cell? a = some x := by
      unfold World.cell? at hc ⊢
      cases hb : w.heap[a.block]? with
      | none => rw [hb] at hc; cases hc
      | some o => rw [he.some hb]; rw [hb] at hc; exact hc
    rw [this]
    dsimp only at h ⊢
    injection h with h1 _
    rw [h1]
  | none =>
    rw [hc] at h
    dsimp only at h
    cases hf : w.farLoad P a (Mode.plain == Mode.atomic) with
    | error e => rw [hf] at h; cases h
    | ok y =>
      rw [hf] at h
      have hc' : w'.cell? a = none := by
        unfold World.cell? at hc ⊢
        unfold World.farLoad at hf
        cases hb : w.heap[a.block]? with
        | none => rw [hb] at hf; cases hf
        | some o => rw [he.some hb]; rw [hb] at hc; exact hc
      rw [hc', farLoad_ext he hf]
      dsimp only at h ⊢
      injection h with h1 _
      rw [h1]
theorem Stab.getObj (r : Nat) : Stab P (Go.getObj r) := by
  intro w v w1 h w' he
  unfold Go.getObj at h ⊢
  simp only [Sem.run] at h ⊢
  cases hb : w.heap[r]? with
  | none => rw [hb] at h; cases h
  | some o =>
    rw [he.some hb]
    rw [hb] at h
    cases o <;> dsimp only at h ⊢ <;> first | (cases h; done) | (injection h with h1 _; rw [h1])
theorem Stab.shape {r : Nat} {f : Option (TypeId × Nat) → Sem β} (hn : ∀ w v w1, w.heap[r]? = none → (f none).run P w ≠ .ok v w1) (hf : ∀ x, Stab P (f x)) : Stab P (Go.shape r >>= f) := by
  intro w v w1 h w' he
  rw [Sem.run_bind] at h ⊢
  simp only [Go.shape, Sem.run, Result.andThen_ok] at h ⊢
  cases hb : w.heap[r]? with
  | none =>
    have : w.shape? r = none := by unfold World.shape?; rw [hb]
    rw [this] at h
    exact absurd h (hn _ _ _ hb)
  | some o =>
    have : w'.shape? r = w.shape? r := by unfold World.shape?; rw [hb, he.some hb]
    rw [this]
    exact hf _ w v w1 h w' he
theorem getObj_none {r : Nat} {f : Obj → Sem β} {w : World} (hb : w.heap[r]? = none) (v : β) (w1 : World) : (Go.getObj r >>= f).run P w ≠ .ok v w1 := by
  rw [Sem.run_bind]
  simp only [Go.getObj, Sem.run, hb]
  simp
theorem Stab.viewAt (r : Nat) : Stab P (Go.viewAt r) := by
  unfold Go.viewAt
  refine Stab.shape (fun w v w1 hb => ?_) fun x => ?_
  · simp only [Option.isSome_none, Bool.false_eq_true, if_false]
    exact getObj_none hb _ _
  · split
    · exact Stab.pure _
    · refine Stab.bind (Stab.getObj _) fun o => ?_
      cases o <;> exact Stab.pure _
theorem Stab.typeInfo (t : TypeId) : Stab P (Go.typeInfo t) := by
  unfold Go.typeInfo
  refine Stab.bind Stab.program fun p => ?_
  split
  · exact Stab.pure _
  · exact (Dead.stuck _).stab
theorem Stab.underlying (t : TypeId) : Stab P (Go.underlying t) := by
  unfold Go.underlying
  refine Stab.bind Stab.program fun p => ?_
  split
  · exact Stab.pure _
  · exact (Dead.stuck _).stab
theorem Stab.sizeOf (t : TypeId) : Stab P (Go.sizeOf t) := Stab.bind (Stab.typeInfo t) fun _ => Stab.pure _
theorem Stab.zeroValue (t : TypeId) : Stab P (Go.zeroValue t) := by
  unfold Go.zeroValue
  refine Stab.bind (Stab.typeInfo t) fun i => ?_
  split
  · exact Stab.pure _
  · exact (Dead.unsupported _).stab
theorem Stab.isAgg (t : TypeId) : Stab P (Go.isAgg t) := by
  unfold Go.isAgg
  refine Stab.bind (Stab.underlying t) fun d => ?_
  split <;> exact Stab.pure _
theorem Stab.loadCellsFrom (a : Addr) : ∀ (n i : Nat) (acc : Array Value), Stab P (Go.loadCellsFrom a i n acc) := by
  intro n
  induction n with
  | zero => intro i acc; exact Stab.pure _
  | succ n ih => intro i acc; exact Stab.bind (Stab.load _) fun v => ih _ _
theorem Stab.loadVar (t : TypeId) (a : Addr) : Stab P (Go.loadVar t a) := by
  unfold Go.loadVar
  refine Stab.bind (Stab.isAgg t) fun b => ?_
  split
  · exact Stab.bind (Stab.sizeOf t) fun n => Stab.bind (Stab.loadCellsFrom a n 0 #[]) fun _ => Stab.pure _
  · exact Stab.load a
theorem Stab.sureAddr (v : Value) : Stab P (Instr.sureAddr v) := by
  unfold Instr.sureAddr
  split
  · exact Stab.pure _
  · exact (Dead.stuck _).stab
theorem Stab.asIntOf (v : Value) : Stab P (Go.asIntOf v) := by
  unfold Go.asIntOf
  split
  · exact Stab.pure _
  · exact (Dead.unsupported _).stab
  · exact (Dead.stuck _).stab
theorem Stab.asBool (v : Value) : Stab P (Go.asBool v) := by
  unfold Go.asBool
  split
  · exact Stab.pure _
  · exact (Dead.stuck _).stab
theorem Stab.loadAt (t : TypeId) (v : Value) : Stab P (Instr.loadAt t v) := Stab.bind (Stab.sureAddr v) fun a => Stab.loadVar t a
theorem Stab.indexAt (t : TypeId) (x ix : Value) : Stab P (Instr.indexAt t x ix) := by
  unfold Instr.indexAt
  try dsimp only
  repeat' first | exact Stab.pure _ | exact (Dead.stuck _).stab | exact (Dead.unsupported _).stab | exact (Dead.boundsPanic _ _ _ _).stab | exact (Dead.runtimePanic _).stab | exact (Dead.goPanic _).stab | exact Stab.underlying _ | exact Stab.sizeOf _ | exact Stab.typeInfo _ | exact Stab.zeroValue _ | exact Stab.isAgg _ | exact Stab.sureAddr _ | exact Stab.asIntOf _ | exact Stab.asBool _ | exact Stab.loadVar _ _ | exact Stab.load _ | exact Stab.getObj _ | exact Stab.viewAt _ | exact Stab.program | (refine Stab.bind ?_ fun _ => ?_) | split
theorem Stab.sliceBound (x : Value) (y : Nat) (c : BoundsCode) : Stab P (Instr.sliceBound x y c) := by
  unfold Instr.sliceBound
  try dsimp only
  repeat' first | exact Stab.pure _ | exact (Dead.stuck _).stab | exact (Dead.unsupported _).stab | exact (Dead.boundsPanic _ _ _ _).stab | exact (Dead.runtimePanic _).stab | exact (Dead.goPanic _).stab | exact Stab.underlying _ | exact Stab.sizeOf _ | exact Stab.typeInfo _ | exact Stab.zeroValue _ | exact Stab.isAgg _ | exact Stab.sureAddr _ | exact Stab.asIntOf _ | exact Stab.asBool _ | exact Stab.loadVar _ _ | exact Stab.load _ | exact Stab.getObj _ | exact Stab.viewAt _ | exact Stab.program | (refine Stab.bind ?_ fun _ => ?_) | split
theorem Stab.sliceBounds (b : Bool) (n c : Nat) (lo hi mx : Option Value) : Stab P (Instr.sliceBounds b n c lo hi mx) := by
  unfold Instr.sliceBounds
  try dsimp only
  repeat' first | exact Stab.sliceBound _ _ _ | exact Stab.pure _ | exact (Dead.stuck _).stab | exact (Dead.unsupported _).stab | exact (Dead.boundsPanic _ _ _ _).stab | exact (Dead.runtimePanic _).stab | exact (Dead.goPanic _).stab | exact Stab.underlying _ | exact Stab.sizeOf _ | exact Stab.typeInfo _ | exact Stab.zeroValue _ | exact Stab.isAgg _ | exact Stab.sureAddr _ | exact Stab.asIntOf _ | exact Stab.asBool _ | exact Stab.loadVar _ _ | exact Stab.load _ | exact Stab.getObj _ | exact Stab.viewAt _ | exact Stab.program | (refine Stab.bind ?_ fun _ => ?_) | split
theorem Stab.part (t : TypeId) (cs : Array Value) (off : Nat) : Stab P (Go.part t cs off) := by
  unfold Go.part
  try dsimp only
  repeat' first | exact Stab.pure _ | exact (Dead.stuck _).stab | exact (Dead.unsupported _).stab | exact (Dead.boundsPanic _ _ _ _).stab | exact (Dead.runtimePanic _).stab | exact (Dead.goPanic _).stab | exact Stab.underlying _ | exact Stab.sizeOf _ | exact Stab.typeInfo _ | exact Stab.zeroValue _ | exact Stab.isAgg _ | exact Stab.sureAddr _ | exact Stab.asIntOf _ | exact Stab.asBool _ | exact Stab.loadVar _ _ | exact Stab.load _ | exact Stab.getObj _ | exact Stab.viewAt _ | exact Stab.program | (refine Stab.bind ?_ fun _ => ?_) | split
theorem Stab.asAgg (v : Value) : Stab P (Go.asAgg v) := by
  unfold Go.asAgg
  try dsimp only
  repeat' first | exact Stab.pure _ | exact (Dead.stuck _).stab | exact (Dead.unsupported _).stab | exact (Dead.boundsPanic _ _ _ _).stab | exact (Dead.runtimePanic _).stab | exact (Dead.goPanic _).stab | exact Stab.underlying _ | exact Stab.sizeOf _ | exact Stab.typeInfo _ | exact Stab.zeroValue _ | exact Stab.isAgg _ | exact Stab.sureAddr _ | exact Stab.asIntOf _ | exact Stab.asBool _ | exact Stab.loadVar _ _ | exact Stab.load _ | exact Stab.getObj _ | exact Stab.viewAt _ | exact Stab.program | (refine Stab.bind ?_ fun _ => ?_) | split
theorem Stab.asAddr (v : Value) : Stab P (Go.asAddr v) := by
  unfold Go.asAddr
  try dsimp only
  repeat' first | exact Stab.pure _ | exact (Dead.stuck _).stab | exact (Dead.unsupported _).stab | exact (Dead.boundsPanic _ _ _ _).stab | exact (Dead.runtimePanic _).stab | exact (Dead.goPanic _).stab | exact Stab.underlying _ | exact Stab.sizeOf _ | exact Stab.typeInfo _ | exact Stab.zeroValue _ | exact Stab.isAgg _ | exact Stab.sureAddr _ | exact Stab.asIntOf _ | exact Stab.asBool _ | exact Stab.loadVar _ _ | exact Stab.load _ | exact Stab.getObj _ | exact Stab.viewAt _ | exact Stab.program | (refine Stab.bind ?_ fun _ => ?_) | split
theorem Stab.slice (t : TypeId) (x : Value) (lo hi mx : Option Value) : Stab P (Instr.slice t x lo hi mx) := by
  unfold Instr.slice
  try dsimp only
  repeat' first | exact Stab.sliceBounds _ _ _ _ _ _ | exact Stab.asAddr _ | exact Stab.pure _ | exact (Dead.stuck _).stab | exact (Dead.unsupported _).stab | exact (Dead.boundsPanic _ _ _ _).stab | exact (Dead.runtimePanic _).stab | exact (Dead.goPanic _).stab | exact Stab.underlying _ | exact Stab.sizeOf _ | exact Stab.typeInfo _ | exact Stab.zeroValue _ | exact Stab.isAgg _ | exact Stab.sureAddr _ | exact Stab.asIntOf _ | exact Stab.asBool _ | exact Stab.loadVar _ _ | exact Stab.load _ | exact Stab.getObj _ | exact Stab.viewAt _ | exact Stab.program | (refine Stab.bind ?_ fun _ => ?_) | split
theorem Stab.field (t : TypeId) (x : Value) (f : Nat) : Stab P (Instr.field t x f) := by
  unfold Instr.field
  try dsimp only
  repeat' first | exact Stab.part _ _ _ | exact Stab.asAgg _ | exact Stab.pure _ | exact (Dead.stuck _).stab | exact (Dead.unsupported _).stab | exact (Dead.boundsPanic _ _ _ _).stab | exact (Dead.runtimePanic _).stab | exact (Dead.goPanic _).stab | exact Stab.underlying _ | exact Stab.sizeOf _ | exact Stab.typeInfo _ | exact Stab.zeroValue _ | exact Stab.isAgg _ | exact Stab.sureAddr _ | exact Stab.asIntOf _ | exact Stab.asBool _ | exact Stab.loadVar _ _ | exact Stab.load _ | exact Stab.getObj _ | exact Stab.viewAt _ | exact Stab.program | (refine Stab.bind ?_ fun _ => ?_) | split
theorem Stab.index (t : TypeId) (x i : Value) : Stab P (Instr.index t x i) := by
  unfold Instr.index
  try dsimp only
  repeat' first | exact Stab.part _ _ _ | exact Stab.asAgg _ | exact Stab.pure _ | exact (Dead.stuck _).stab | exact (Dead.unsupported _).stab | exact (Dead.boundsPanic _ _ _ _).stab | exact (Dead.runtimePanic _).stab | exact (Dead.goPanic _).stab | exact Stab.underlying _ | exact Stab.sizeOf _ | exact Stab.typeInfo _ | exact Stab.zeroValue _ | exact Stab.isAgg _ | exact Stab.sureAddr _ | exact Stab.asIntOf _ | exact Stab.asBool _ | exact Stab.loadVar _ _ | exact Stab.load _ | exact Stab.getObj _ | exact Stab.viewAt _ | exact Stab.program | (refine Stab.bind ?_ fun _ => ?_) | split
theorem Stab.extract (x : Value) (i : Nat) : Stab P (Instr.extract x i) := by
  unfold Instr.extract
  try dsimp only
  repeat' first | exact Stab.pure _ | exact (Dead.stuck _).stab | exact (Dead.unsupported _).stab | exact (Dead.boundsPanic _ _ _ _).stab | exact (Dead.runtimePanic _).stab | exact (Dead.goPanic _).stab | exact Stab.underlying _ | exact Stab.sizeOf _ | exact Stab.typeInfo _ | exact Stab.zeroValue _ | exact Stab.isAgg _ | exact Stab.sureAddr _ | exact Stab.asIntOf _ | exact Stab.asBool _ | exact Stab.loadVar _ _ | exact Stab.load _ | exact Stab.getObj _ | exact Stab.viewAt _ | exact Stab.program | (refine Stab.bind ?_ fun _ => ?_) | split
theorem Stab.makeInterface (t : TypeId) (x : Value) : Stab P (Instr.makeInterface t x) := by
  unfold Instr.makeInterface
  try dsimp only
  repeat' first | exact Stab.pure _ | exact (Dead.stuck _).stab | exact (Dead.unsupported _).stab | exact (Dead.boundsPanic _ _ _ _).stab | exact (Dead.runtimePanic _).stab | exact (Dead.goPanic _).stab | exact Stab.underlying _ | exact Stab.sizeOf _ | exact Stab.typeInfo _ | exact Stab.zeroValue _ | exact Stab.isAgg _ | exact Stab.sureAddr _ | exact Stab.asIntOf _ | exact Stab.asBool _ | exact Stab.loadVar _ _ | exact Stab.load _ | exact Stab.getObj _ | exact Stab.viewAt _ | exact Stab.program | (refine Stab.bind ?_ fun _ => ?_) | split
theorem Stab.intArith (op : BinOp) (k : IntKind) (x y : Int) : Stab P (Op.intArith op k x y) := by
  unfold Op.intArith
  try dsimp only
  repeat' first | exact Stab.pure _ | exact (Dead.stuck _).stab | exact (Dead.unsupported _).stab | exact (Dead.boundsPanic _ _ _ _).stab | exact (Dead.runtimePanic _).stab | exact (Dead.goPanic _).stab | exact Stab.underlying _ | exact Stab.sizeOf _ | exact Stab.typeInfo _ | exact Stab.zeroValue _ | exact Stab.isAgg _ | exact Stab.sureAddr _ | exact Stab.asIntOf _ | exact Stab.asBool _ | exact Stab.loadVar _ _ | exact Stab.load _ | exact Stab.getObj _ | exact Stab.viewAt _ | exact Stab.program | (refine Stab.bind ?_ fun _ => ?_) | split
theorem Stab.intBits (op : BinOp) (k : IntKind) (x y : Int) : Stab P (Op.intBits op k x y) := by
  unfold Op.intBits
  try dsimp only
  repeat' first | exact Stab.pure _ | exact (Dead.stuck _).stab | exact (Dead.unsupported _).stab | exact (Dead.boundsPanic _ _ _ _).stab | exact (Dead.runtimePanic _).stab | exact (Dead.goPanic _).stab | exact Stab.underlying _ | exact Stab.sizeOf _ | exact Stab.typeInfo _ | exact Stab.zeroValue _ | exact Stab.isAgg _ | exact Stab.sureAddr _ | exact Stab.asIntOf _ | exact Stab.asBool _ | exact Stab.loadVar _ _ | exact Stab.load _ | exact Stab.getObj _ | exact Stab.viewAt _ | exact Stab.program | (refine Stab.bind ?_ fun _ => ?_) | split
theorem Stab.stringOp (op : BinOp) (x y : ByteArray) : Stab P (Op.stringOp op x y) := by
  unfold Op.stringOp
  try dsimp only
  repeat' first | exact Stab.pure _ | exact (Dead.stuck _).stab | exact (Dead.unsupported _).stab | exact (Dead.boundsPanic _ _ _ _).stab | exact (Dead.runtimePanic _).stab | exact (Dead.goPanic _).stab | exact Stab.underlying _ | exact Stab.sizeOf _ | exact Stab.typeInfo _ | exact Stab.zeroValue _ | exact Stab.isAgg _ | exact Stab.sureAddr _ | exact Stab.asIntOf _ | exact Stab.asBool _ | exact Stab.loadVar _ _ | exact Stab.load _ | exact Stab.getObj _ | exact Stab.viewAt _ | exact Stab.program | (refine Stab.bind ?_ fun _ => ?_) | split
theorem Stab.unary (op : UnOp) (x : Value) : Stab P (Op.unary op x) := by
  unfold Op.unary
  try dsimp only
  repeat' first | exact Stab.intArith _ _ _ _ | exact Stab.intBits _ _ _ _ | exact Stab.pure _ | exact (Dead.stuck _).stab | exact (Dead.unsupported _).stab | exact (Dead.boundsPanic _ _ _ _).stab | exact (Dead.runtimePanic _).stab | exact (Dead.goPanic _).stab | exact Stab.underlying _ | exact Stab.sizeOf _ | exact Stab.typeInfo _ | exact Stab.zeroValue _ | exact Stab.isAgg _ | exact Stab.sureAddr _ | exact Stab.asIntOf _ | exact Stab.asBool _ | exact Stab.loadVar _ _ | exact Stab.load _ | exact Stab.getObj _ | exact Stab.viewAt _ | exact Stab.program | (refine Stab.bind ?_ fun _ => ?_) | split
theorem Stab.len (ts : Array TypeId) (t : TypeId) (xs : Array Value) : Stab P (Builtin.len_ ts t xs) := by
  unfold Builtin.len_
  try dsimp only
  repeat' first | exact Stab.pure _ | exact (Dead.stuck _).stab | exact (Dead.unsupported _).stab | exact (Dead.boundsPanic _ _ _ _).stab | exact (Dead.runtimePanic _).stab | exact (Dead.goPanic _).stab | exact Stab.underlying _ | exact Stab.sizeOf _ | exact Stab.typeInfo _ | exact Stab.zeroValue _ | exact Stab.isAgg _ | exact Stab.sureAddr _ | exact Stab.asIntOf _ | exact Stab.asBool _ | exact Stab.loadVar _ _ | exact Stab.load _ | exact Stab.getObj _ | exact Stab.viewAt _ | exact Stab.program | (refine Stab.bind ?_ fun _ => ?_) | split
theorem Stab.cap (ts : Array TypeId) (t : TypeId) (xs : Array Value) : Stab P (Builtin.cap_ ts t xs) := by
  unfold Builtin.cap_
  try dsimp only
  repeat' first | exact Stab.pure _ | exact (Dead.stuck _).stab | exact (Dead.unsupported _).stab | exact (Dead.boundsPanic _ _ _ _).stab | exact (Dead.runtimePanic _).stab | exact (Dead.goPanic _).stab | exact Stab.underlying _ | exact Stab.sizeOf _ | exact Stab.typeInfo _ | exact Stab.zeroValue _ | exact Stab.isAgg _ | exact Stab.sureAddr _ | exact Stab.asIntOf _ | exact Stab.asBool _ | exact Stab.loadVar _ _ | exact Stab.load _ | exact Stab.getObj _ | exact Stab.viewAt _ | exact Stab.program | (refine Stab.bind ?_ fun _ => ?_) | split
theorem Stab.noView (a : Addr) : Stab P (Go.noView a) := by
  unfold Go.noView
  try dsimp only
  repeat' first | exact Stab.pure _ | exact (Dead.stuck _).stab | exact (Dead.unsupported _).stab | exact (Dead.boundsPanic _ _ _ _).stab | exact (Dead.runtimePanic _).stab | exact (Dead.goPanic _).stab | exact Stab.underlying _ | exact Stab.sizeOf _ | exact Stab.typeInfo _ | exact Stab.zeroValue _ | exact Stab.isAgg _ | exact Stab.sureAddr _ | exact Stab.asIntOf _ | exact Stab.asBool _ | exact Stab.loadVar _ _ | exact Stab.load _ | exact Stab.getObj _ | exact Stab.viewAt _ | exact Stab.program | (refine Stab.bind ?_ fun _ => ?_) | split
theorem Stab.sliceAt (t : TypeId) (x : Value) (lo hi mx : Option Value) : Stab P (Instr.sliceAt t x lo hi mx) := by
  unfold Instr.sliceAt
  try dsimp only
  repeat' first | exact Stab.sliceBounds _ _ _ _ _ _ | exact Stab.slice _ _ _ _ _ | exact Stab.pure _ | exact (Dead.stuck _).stab | exact (Dead.unsupported _).stab | exact (Dead.boundsPanic _ _ _ _).stab | exact (Dead.runtimePanic _).stab | exact (Dead.goPanic _).stab | exact Stab.underlying _ | exact Stab.sizeOf _ | exact Stab.typeInfo _ | exact Stab.zeroValue _ | exact Stab.isAgg _ | exact Stab.sureAddr _ | exact Stab.asIntOf _ | exact Stab.asBool _ | exact Stab.loadVar _ _ | exact Stab.load _ | exact Stab.getObj _ | exact Stab.viewAt _ | exact Stab.program | (refine Stab.bind ?_ fun _ => ?_) | split
theorem Stab.byteOf (a : Addr) : Stab P (Go.byteOf a) := by
  unfold Go.byteOf
  split
  · exact Stab.pure _
  · dsimp only
    refine Stab.bind Stab.program fun p => Stab.bind (Stab.noView _) fun _ => Stab.shape (fun w v w1 _ => Dead.stuck _ w v w1) fun x => ?_
    cases x with
    | none => exact (Dead.stuck _).stab
    | some y =>
      dsimp only
      repeat' first | exact Stab.pure _ | exact (Dead.stuck _).stab | split
theorem Stab.partAt (a : Addr) (c b : Nat) : Stab P (Go.partAt a c b) := by
  unfold Go.partAt
  refine Stab.bind (Stab.byteOf _) fun x => ?_
  dsimp only
  exact Stab.bind (Stab.byteOf _) fun _ => Stab.pure _
theorem Stab.fieldPlace (a : Addr) (f : Field) : Stab P (Go.fieldPlace a f) := by
  unfold Go.fieldPlace
  refine Stab.bind (Stab.sizeOf _) fun n => ?_
  split
  · exact Stab.partAt _ _ _
  · exact Stab.pure _
theorem Stab.listMapM {γ : Type} {f : γ → Sem α} (hf : ∀ x, Stab P (f x)) : ∀ l : List γ, Stab P (l.mapM f) := by
  intro l
  induction l with
  | nil => rw [List.mapM_nil]; exact Stab.pure _
  | cons x t ih => rw [List.mapM_cons]; exact Stab.bind (hf x) fun _ => Stab.bind ih fun _ => Stab.pure _
theorem Stab.mapM {γ : Type} {f : γ → Sem α} (hf : ∀ x, Stab P (f x)) (l : Array γ) : Stab P (l.mapM f) := by
  rw [Array.mapM_eq_mapM_toList]
  intro w v w1 h w' he
  rw [Sem.run_map] at h ⊢
  cases hs : (List.mapM f l.toList).run P w with
  | ok a w2 =>
    rw [hs] at h
    rw [Stab.listMapM hf l.toList w a w2 hs w' he]
    simp only [Result.andThen_ok] at h ⊢
    injection h with h1 _
    rw [h1]
  | halt x w2 => rw [hs] at h; cases h
theorem Stab.fieldAt (t : TypeId) (x : Value) (f : Nat) : Stab P (Instr.fieldAt t x f) := by
  unfold Instr.fieldAt
  try dsimp only
  repeat' first | exact Stab.fieldPlace _ _ | exact Stab.pure _ | exact (Dead.stuck _).stab | exact (Dead.unsupported _).stab | exact (Dead.boundsPanic _ _ _ _).stab | exact (Dead.runtimePanic _).stab | exact (Dead.goPanic _).stab | exact Stab.underlying _ | exact Stab.sizeOf _ | exact Stab.typeInfo _ | exact Stab.zeroValue _ | exact Stab.isAgg _ | exact Stab.sureAddr _ | exact Stab.asIntOf _ | exact Stab.asBool _ | exact Stab.loadVar _ _ | exact Stab.load _ | exact Stab.getObj _ | exact Stab.viewAt _ | exact Stab.program | (refine Stab.bind ?_ fun _ => ?_) | split
theorem Stab.build (t : TypeId) (ps : Array (Nat × Value)) : Stab P (Instr.build t ps) := by
  unfold Instr.build
  try dsimp only
  repeat' first | exact Stab.mapM (fun _ => Stab.bind (Stab.sizeOf _) fun _ => Stab.pure _) _ | exact Stab.pure _ | exact (Dead.stuck _).stab | exact (Dead.unsupported _).stab | exact (Dead.boundsPanic _ _ _ _).stab | exact (Dead.runtimePanic _).stab | exact (Dead.goPanic _).stab | exact Stab.underlying _ | exact Stab.sizeOf _ | exact Stab.typeInfo _ | exact Stab.zeroValue _ | exact Stab.isAgg _ | exact Stab.sureAddr _ | exact Stab.asIntOf _ | exact Stab.asBool _ | exact Stab.loadVar _ _ | exact Stab.load _ | exact Stab.getObj _ | exact Stab.viewAt _ | exact Stab.program | (refine Stab.bind ?_ fun _ => ?_) | split

theorem Stab.grow {s : Sem α} (h : Stab P s) : Grow P s := by
  intro w v w1 hr
  have e := h w v w1 hr w (Ext.refl w)
  rw [hr] at e
  injection e with _ e
  subst e
  exact Ext.refl _
theorem Grow.bind {s : Sem α} {f : α → Sem β} (h : Grow P s) (hf : ∀ v, Grow P (f v)) : Grow P (s >>= f) := by
  intro w v w1 hr
  rw [Sem.run_bind] at hr
  cases hs : s.run P w with
  | ok a w2 => rw [hs] at hr; exact (h w a w2 hs).trans (hf a w2 v w1 hr)
  | halt x w2 => rw [hs] at hr; cases hr
theorem Grow.newObj (o : Obj) : Grow P (Go.newObj o) := by
  intro w v w1 h
  simp only [Go.newObj, Sem.run] at h
  injection h with _ h
  subst h
  exact ⟨by simp, fun b hb => by simp [Array.getElem?_push, Nat.ne_of_lt hb]⟩
theorem Grow.choose (q : Question) : Grow P (Go.choose q) := by
  intro w v w1 h
  simp only [Go.choose, Sem.run] at h
  split at h <;> (injection h with _ h; subst h; exact ⟨Nat.le_refl _, fun _ _ => rfl⟩)
theorem Grow.newRow (t : TypeId) (cs : Array Value) : Grow P (Go.newRow t cs) := Grow.bind (Grow.newObj _) fun _ => (Stab.pure _).grow
theorem Grow.newVar (t : TypeId) (v : Value) : Grow P (Go.newVar t v) := Grow.newRow _ _
theorem Grow.box (t : TypeId) (v : Value) : Grow P (Instr.box t v) := Grow.bind (Grow.newVar _ _) fun _ => (Stab.pure _).grow
theorem Grow.alloc (t : TypeId) : Grow P (Instr.alloc t true (.tuple #[])) := by
  unfold Instr.alloc
  exact Grow.bind (Stab.zeroValue t).grow fun z => Grow.bind (Grow.newVar _ _) fun _ => (Stab.pure _).grow
theorem Grow.buildSlice (t : TypeId) (n : Nat) (ps : Array (Nat × Value)) : Grow P (Instr.buildSlice t n ps) := by
  unfold Instr.buildSlice
  dsimp only
  repeat' first | exact (Stab.pure _).grow | exact ((Dead.stuck _).stab).grow | exact ((Dead.unsupported _).stab).grow | exact (Stab.underlying _).grow | exact (Stab.sizeOf _).grow | exact (Stab.zeroValue _).grow | exact Grow.newRow _ _ | (refine Grow.bind ?_ fun _ => ?_) | split
theorem Grow.listFoldlM {γ : Type} {f : α → γ → Sem α} (hf : ∀ x y, Grow P (f x y)) : ∀ (l : List γ) (x : α), Grow P (l.foldlM f x) := by
  intro l
  induction l with
  | nil => intro x; rw [List.foldlM_nil]; exact (Stab.pure _).grow
  | cons y t ih => intro x; rw [List.foldlM_cons]; exact Grow.bind (hf x y) fun _ => ih _
theorem Grow.min2 (x y : Value) : Grow P (Builtin.min2 x y) := by
  unfold Builtin.min2
  repeat' first | exact (Stab.pure _).grow | exact ((Dead.stuck _).stab).grow | exact ((Dead.unsupported _).stab).grow | exact (Stab.stringOp _ _ _).grow | exact (Stab.asBool _).grow | exact Grow.choose _ | (refine Grow.bind ?_ fun _ => ?_) | split
theorem Grow.max2 (x y : Value) : Grow P (Builtin.max2 x y) := by
  unfold Builtin.max2
  repeat' first | exact (Stab.pure _).grow | exact ((Dead.stuck _).stab).grow | exact ((Dead.unsupported _).stab).grow | exact (Stab.stringOp _ _ _).grow | exact (Stab.asBool _).grow | exact Grow.choose _ | (refine Grow.bind ?_ fun _ => ?_) | split
theorem Grow.min_ (ts : Array TypeId) (t : TypeId) (xs : Array Value) : Grow P (Builtin.min_ ts t xs) := by
  unfold Builtin.min_
  split
  · exact ((Dead.stuck _).stab).grow
  · exact Grow.listFoldlM Grow.min2 _ _
theorem Grow.max_ (ts : Array TypeId) (t : TypeId) (xs : Array Value) : Grow P (Builtin.max_ ts t xs) := by
  unfold Builtin.max_
  split
  · exact ((Dead.stuck _).stab).grow
  · exact Grow.listFoldlM Grow.max2 _ _

end
end Go.Proofs.Ytkkbblpofhenpaa
