/- Lemmas, walks and contracts that the statements of this seat are proved by. -/
import Derived.Test.YtdfgnmdofjhnkaaG22
/- Frames in rows: appended, read, written. Nothing of the program but sizes. -/
namespace Go.Proofs.Ytdfgnmdofjhnkaa
open Go.RowKit

theorem Try.infoFrame : (Try.prog.info? 58).map (fun i => (i.zero, i.size, i.bytes)) = some (some (.agg #[.int .i64 0, .int .i64 0, .int .i64 0, .int .i64 0, .slice none 0 0, .int .i64 0, .int .i64 0, .int .i64 0, .slice none 0 0]), 9, 104) := by kernel_rfl
/-- A frame's nine cells. -/
def fcells (f : Fr) (a b : Value) : List Value := [.int .i64 f.kind, .int .i64 f.epoch, .int .i64 f.seq, .int .i64 f.letter, a, .int .i64 f.init, .int .i64 f.num, .int .i64 f.count, b]
def Rep.frame : Rep Fr where
  size := 9
  pos := by omega
  is fr w S cs f := ∃ a b, cs = fcells f a b ∧ SliceOn Rep.piece fr w S a f.pieces ∧ SliceOn Rep.int fr w S b f.path
  len h := by obtain ⟨a, b, rfl, _⟩ := h; rfl
  keep h hk := by obtain ⟨a, b, rfl, h1, h2⟩ := h; exact ⟨a, b, rfl, h1.keep hk, h2.keep hk⟩
  widen h k1 := by obtain ⟨a, b, rfl, h1, h2⟩ := h; exact ⟨a, b, rfl, h1.widen k1, h2.widen k1⟩
  soft h := by obtain ⟨a, b, rfl, h1, h2⟩ := h; exact ⟨a, b, rfl, h1.soft, h2.soft⟩
  one h := by
    obtain ⟨a, b, rfl, ⟨_, _, rfl, _⟩, ⟨_, _, rfl, _⟩⟩ := h
    intro u hu
    simp [fcells] at hu
    rcases hu with rfl | rfl | rfl | rfl | rfl | rfl | rfl | rfl | rfl <;> rfl
theorem FrIs.rep {fr : Bool} {w : World} {lo hi : Nat} {A B : Option Addr} {k l : Nat} {f : Fr} (h : FrIs fr w lo hi (.agg #[.int .i64 f.kind, .int .i64 f.epoch, .int .i64 f.seq, .int .i64 f.letter, .slice A f.pieces.length k, .int .i64 f.init, .int .i64 f.num, .int .i64 f.count, .slice B f.path.length l]) f) :
    Rep.frame.is fr w (rng lo hi) (fcells f (.slice A f.pieces.length k) (.slice B f.path.length l)) f := by
  obtain ⟨_, _, _, _, he, h1, h2⟩ := h
  cases he
  exact ⟨_, _, rfl, h1, h2⟩

/-! ### a row that grows, whose elements may not be written -/
/-- v: a row of the call's own, in blocks from B on, that reads as xs. -/
def AcF {α : Type} (r : Rep α) (e : TypeId) (B : Nat) (w : World) (v : Value) (xs : List α) : Prop :=
  ∃ cells S, w.ownsRow B e r.size v xs.length cells ∧ r.all false w S cells xs ∧ (∀ b, S b → B ≤ b ∧ b < w.heap.size) ∧ (∀ b, v.ownBlock = some b → ¬ S b)

section
variable {α : Type} {r : Rep α} {e : TypeId} {B : Nat} {w w1 : World} {v : Value} {xs : List α} {x : α} {cs : List Value}
theorem AcF.nil (r : Rep α) (e : TypeId) (B : Nat) (w : World) : AcF r e B w (.slice none 0 0) [] :=
  ⟨[], fun _ => False, World.ownsRow_nil _ _ _ _, rfl, fun _ h => h.elim, fun _ h => by simp [Value.ownBlock] at h⟩
theorem AcF.empty (r : Rep α) (e : TypeId) (w : World) : AcF r e w.heap.size (w.alloc (.cells #[] e)) (.slice (some ⟨w.heap.size, 0, none⟩) 0 0) [] :=
  ⟨[], fun _ => False, own_lit (size := r.size) w.heap.size e 0 [] (by simp) (Nat.le_refl _) (by unfold maxLen; omega), rfl, fun _ h => h.elim, fun _ _ h => h⟩
theorem AcF.lt (h : AcF r e B w v xs) : ∀ b, v.ownBlock = some b → B ≤ b ∧ b < w.heap.size := by
  obtain ⟨cells, S, h1, _⟩ := h; exact h1.lt
theorem AcF.slice (h : AcF r e B w v xs) : SliceIs r false w B w.heap.size v xs := by
  obtain ⟨cells, S, h1, h2, h3, h4⟩ := h
  exact SliceOn.of_own (base := B) (e := e) h1 (Rep.all_widen (fun b hb => h3 b hb) h2) (fun b hb => h1.lt b hb)
theorem AcF.base {B' : Nat} (h : AcF r e B w v xs) (hB : B' ≤ B) : AcF r e B' w v xs := by
  obtain ⟨cells, S, h1, h2, h3, h4⟩ := h
  exact ⟨cells, S, own_base h1 hB, h2, fun b hb => ⟨Nat.le_trans hB (h3 b hb).1, (h3 b hb).2⟩, h4⟩
theorem AcF.move (h : AcF r e B w v xs) (hk : ∀ b, B ≤ b → b < w.heap.size → w1.heap[b]? = w.heap[b]?) (hs : w.heap.size ≤ w1.heap.size) : AcF r e B w1 v xs := by
  obtain ⟨cells, S, h1, h2, h3, h4⟩ := h
  exact ⟨cells, S, own_move h1 hk, Rep.all_keep (fun b hb => hk b (h3 b hb).1 (h3 b hb).2) h2, fun b hb => ⟨(h3 b hb).1, Nat.lt_of_lt_of_le (h3 b hb).2 hs⟩, h4⟩
theorem AcF.below (h : AcF r e B w v xs) (hb : Below w.heap.size w w1) : AcF r e B w1 v xs := h.move (fun b _ h2 => hb.block b h2) hb.size
/-- One more element, which lies in what was made since. -/
theorem AcF.step (h : AcF r e B w v xs) (hk : ∀ b, B ≤ b → b < w.heap.size → w1.heap[b]? = w.heap[b]?) (hs : w.heap.size ≤ w1.heap.size) (hB : B ≤ w.heap.size) (hcs : r.is false w1 (rng w.heap.size w1.heap.size) cs x) :
    ∃ cells, w1.ownsRow B e r.size v xs.length cells ∧ (∀ v' w2, w2.ownsRow B e r.size v' (xs.length + 1) (cells ++ cs) → w1.grownBy w2 v.ownBlock → (v'.ownBlock = v.ownBlock ∨ ∃ n, v'.ownBlock = some n ∧ w1.heap.size ≤ n) → AcF r e B w2 v' (xs ++ [x])) := by
  obtain ⟨cells, S, h1, h2, h3, h4⟩ := h
  have own1 := own_move h1 hk
  have all1 : r.all false w1 S cells xs := Rep.all_keep (fun b hb => hk b (h3 b hb).1 (h3 b hb).2) h2
  refine ⟨cells, own1, fun v' w2 ho hg ha => ?_⟩
  have k1 : ∀ b, (S b ∨ rng w.heap.size w1.heap.size b) → w2.heap[b]? = w1.heap[b]? := by
    rintro b (hb | hb)
    · exact hg.block b (Nat.lt_of_lt_of_le (h3 b hb).2 hs) (fun he => h4 b he.symm hb)
    · refine hg.block b hb.2 (fun he => ?_)
      have := (h1.lt b he.symm).2
      have := hb.1
      omega
  have hnew : r.all false w2 (fun b => S b ∨ rng w.heap.size w1.heap.size b) (cells ++ cs) (xs ++ [x]) :=
    Rep.all_snoc (Rep.all_keep k1 (Rep.all_widen (fun b hb => .inl hb) all1)) (r.keep (r.widen hcs (fun b hb => .inr hb)) k1)
  refine ⟨cells ++ cs, _, by rw [List.length_append]; exact ho, hnew, ?_, ?_⟩
  · rintro b (hb | hb)
    · exact ⟨(h3 b hb).1, Nat.lt_of_lt_of_le (h3 b hb).2 (Nat.le_trans hs hg.size)⟩
    · exact ⟨by have := hb.1; omega, Nat.lt_of_lt_of_le hb.2 hg.size⟩
  · intro b hb hS
    rcases ha with ha | ⟨n, ha, hn⟩
    · rw [ha] at hb
      rcases hS with hS | hS
      · exact h4 b hb hS
      · have := (h1.lt b hb).2; have := hS.1; omega
    · rw [ha] at hb
      injection hb with hb
      subst hb
      rcases hS with hS | hS
      · have := (h3 _ hS).2; omega
      · have := hS.2; omega
end

section
variable {P : Program} {w : World} {ops : Array Oper} {rest : List Oper} {o : Oper} {a : Act} {Q : Exit → Act → World → Prop}
/-- 'append(s, x)': x's cells lie in a block made on the spot; what x leads to was made since 'w0'. -/
theorem wpList_acF {α : Type} {r : Rep α} {w0 : World} {xs : List α} {y : α} (hgd : o.guard = none) (s x : Operand) (t : TypeId) (ho : o.op = .call { callee := .builtin .append, args := #[s, x], argTypes := #[t, t] })
    (B : Nat) (e : TypeId) {z : Value} {bytes : Nat} (hinfo : (P.info? e).map (fun i => (i.zero, i.size, i.bytes)) = some (some z, r.size, bytes)) (ht : P.underlying t = some (.slice e))
    (hzs : z.cells.size = r.size) (hby : bytes ≤ 1000) (v : Value) (hs : a.eval s = v) (hacc : AcF r e B w0 v xs) (hk : ∀ b, B ≤ b → b < w0.heap.size → w.heap[b]? = w0.heap[b]?) (hsz : w0.heap.size ≤ w.heap.size) (hB : B ≤ w0.heap.size)
    (c H : Nat) (cs : List Value) (hx : a.eval x = .slice (some ⟨H, 0, none⟩) 1 c) (hH : w.heap.size = H) (hcs : r.is false w (rng w0.heap.size w.heap.size) cs y) (hn : xs.length ≤ 1000000)
    (h : ∀ v' w', AcF r e B w' v' (xs ++ [y]) → w.grownBy w' v.ownBlock → Below B w w' → wpList P ops Q rest (a.put o.dst v') w') : wpList P ops Q (o :: rest) a (w.alloc (.cells cs.toArray e)) := by
  obtain ⟨cells, hown, hnext⟩ := hacc.step hk hsz hB hcs
  refine wpList_appendB hgd s x t ho B e hinfo ht hzs r.pos v xs.length cells hs hown 1 c H cs hx hH (by rw [r.len hcs]; omega) (r.one hcs) (by unfold maxLen; omega) (Nat.le_trans (Nat.mul_le_mul (show xs.length + 1 ≤ 1000001 by omega) hby) (by omega)) (by omega) ?_
  intro v' w' h1 h2 h3 h4
  refine h v' w' (hnext v' w' h1 h2 ?_) h2 h3
  rcases h4 with h4 | h4
  · exact .inl h4
  · exact .inr ⟨_, h4, by omega⟩
end

/-! ### a row of frames, written field by field -/
/-- Block g holds n frames, one behind the other. -/
structure EachF (w : World) (g n : Nat) (F : Nat → Fr) : Prop where
  lt : g < w.heap.size
  free : ∀ o, w.frozen? ⟨g, o, none⟩ = false
  at_ : ∀ i, i < n → ∃ a b, (∀ q u, (fcells (F i) a b)[q]? = some u → w.cell? ⟨g, i * 9 + q, none⟩ = some u) ∧ SliceOn Rep.piece false w (butS w g) a (F i).pieces ∧ SliceOn Rep.int false w (butS w g) b (F i).path
section
variable {w w' : World} {g n : Nat} {F : Nat → Fr}
theorem EachF.next (h : EachF w g n F) (hb : Below w.heap.size w w') : EachF w' g n F := by
  have hbl := hb.block g h.lt
  have hs : ∀ b, butS w g b → butS w' g b := fun b q => ⟨q.1, Nat.lt_of_lt_of_le q.2 hb.size⟩
  refine ⟨Nat.lt_of_lt_of_le h.lt hb.size, fun o => (frozen_of_block hbl).trans (h.free o), fun i hi => ?_⟩
  obtain ⟨a, b, h1, h2, h3⟩ := h.at_ i hi
  exact ⟨a, b, fun q u hu => (cell_of_block hbl).trans (h1 q u hu), (h2.keep fun b q => hb.block b q.2).widen hs, (h3.keep fun b q => hb.block b q.2).widen hs⟩
theorem EachF.put {i q : Nat} {u : Value} {f' : Fr} (h : EachF w g n F) (hi : i < n) (hq : q < 9)
    (hf : ∀ a b, SliceOn Rep.piece false w (butS w g) a (F i).pieces → SliceOn Rep.int false w (butS w g) b (F i).path → ∃ a' b', fcells f' a' b' = (fcells (F i) a b).set q u ∧ SliceOn Rep.piece false w (butS w g) a' f'.pieces ∧ SliceOn Rep.int false w (butS w g) b' f'.path) :
    EachF (w.setCell ⟨g, i * 9 + q, none⟩ u) g n (upd F i f') := by
  have hsz : (w.setCell ⟨g, i * 9 + q, none⟩ u).heap.size = w.heap.size := by simp [World.setCell]
  have hfar : ∀ b, butS w g b → (w.setCell ⟨g, i * 9 + q, none⟩ u).heap[b]? = w.heap[b]? := fun b hb => heap_setCell_other _ _ _ _ hb.1
  have hbs : ∀ b, butS w g b → butS (w.setCell ⟨g, i * 9 + q, none⟩ u) g b := fun b hb => ⟨hb.1, by rw [hsz]; exact hb.2⟩
  have hfz : ∀ o, (w.setCell ⟨g, i * 9 + q, none⟩ u).frozen? ⟨g, o, none⟩ = false := fun o => by rw [setCell_free]; exact h.free o
  refine ⟨by rw [hsz]; exact h.lt, hfz, fun m hm => ?_⟩
  by_cases hmi : m = i
  · subst hmi
    obtain ⟨a, b, h1, h2, h3⟩ := h.at_ m hm
    obtain ⟨a', b', h4, h5, h6⟩ := hf a b h2 h3
    rw [upd_at]
    refine ⟨a', b', fun p v hv => ?_, (h5.keep hfar).widen hbs, (h6.keep hfar).widen hbs⟩
    rw [h4] at hv
    by_cases hp : p = q
    · subst hp
      have hl : p < (fcells (F m) a b).length := hq
      rw [List.getElem?_set_self hl] at hv
      cases hv
      exact setCell_at (h1 p _ (List.getElem?_eq_getElem hl))
    · rw [List.getElem?_set_ne (Ne.symm hp)] at hv
      rw [setCell_ne (by omega)]
      exact h1 p v hv
  · obtain ⟨a, b, h1, h2, h3⟩ := h.at_ m hm
    rw [upd_ne _ _ hmi]
    refine ⟨a, b, fun p v hv => ?_, (h2.keep hfar).widen hbs, (h3.keep hfar).widen hbs⟩
    have hp : p < 9 := (List.getElem?_eq_some_iff.1 hv).1
    rw [setCell_ne (by omega)]
    exact h1 p v hv
/-- A number is written. -/
theorem EachF.num {i q : Nat} {x : Value} {f' : Fr} (h : EachF w g n F) (hi : i < n) (hq : q < 9) (h1 : f'.pieces = (F i).pieces) (h2 : f'.path = (F i).path) (h3 : ∀ a b, fcells f' a b = (fcells (F i) a b).set q x) : EachF (w.setCell ⟨g, i * 9 + q, none⟩ x) g n (upd F i f') :=
  h.put hi hq fun a b k1 k2 => ⟨a, b, h3 a b, by rw [h1]; exact k1, by rw [h2]; exact k2⟩
theorem EachF.pieces {i : Nat} {x : Value} {ps : List Pc.Piece} (h : EachF w g n F) (hi : i < n) (hx : SliceOn Rep.piece false w (butS w g) x ps) : EachF (w.setCell ⟨g, i * 9 + 4, none⟩ x) g n (upd F i { F i with pieces := ps }) :=
  h.put hi (by omega) fun _ b _ k2 => ⟨x, b, rfl, hx, k2⟩
theorem EachF.path {i : Nat} {x : Value} {xs : List Int} (h : EachF w g n F) (hi : i < n) (hx : SliceOn Rep.int false w (butS w g) x xs) : EachF (w.setCell ⟨g, i * 9 + 8, none⟩ x) g n (upd F i { F i with path := xs }) :=
  h.put hi (by omega) fun a _ k1 _ => ⟨a, x, rfl, k1, hx⟩
theorem EachF.frame (h : EachF w g n F) {i : Nat} (hi : i < n) : ∃ A B k l, (∀ q u, (fcells (F i) (.slice A (F i).pieces.length k) (.slice B (F i).path.length l))[q]? = some u → w.cell? ⟨g, i * 9 + q, none⟩ = some u) ∧
    FrIs false w 0 w.heap.size (.agg #[.int .i64 (F i).kind, .int .i64 (F i).epoch, .int .i64 (F i).seq, .int .i64 (F i).letter, .slice A (F i).pieces.length k, .int .i64 (F i).init, .int .i64 (F i).num, .int .i64 (F i).count, .slice B (F i).path.length l]) (F i) := by
  obtain ⟨a, b, h1, h2, h3⟩ := h.at_ i hi
  have hs : ∀ b, butS w g b → rng 0 w.heap.size b := fun b q => ⟨Nat.zero_le _, q.2⟩
  obtain ⟨A, k, rfl, _⟩ := id h2
  obtain ⟨B, l, rfl, _⟩ := id h3
  exact ⟨A, B, k, l, h1, A, B, k, l, rfl, SliceOn.is_ (h2.widen hs), SliceOn.is_ (h3.widen hs)⟩
theorem EachF.of_acc {B : Nat} {v : Value} {xs : List Fr} (h : AcF Rep.frame 58 B w v xs) (hn : 0 < xs.length) : ∃ g c, v = .slice (some ⟨g, 0, none⟩) xs.length c ∧ B ≤ g ∧ xs.length ≤ c ∧ c ≤ maxLen ∧ EachF w g xs.length (fun i => xs.getD i Fr.zero) := by
  obtain ⟨cells, S, hown, hall, hS, hne⟩ := h
  rcases id hown.2 with ⟨_, h0⟩ | ⟨g, cap, cur, rfl, hg, hc, hnc, hcm, hsz, ht⟩
  · omega
  · refine ⟨g, cap, rfl, hg, hnc, hcm, lt_of_block hc, fun o => by simp [World.frozen?, hc], fun i hi => ?_⟩
    have hx : xs[i]? = some (xs.getD i Fr.zero) := by rw [List.getD_eq_getElem?_getD, List.getElem?_eq_getElem hi]; rfl
    obtain ⟨cs, h1, h2⟩ := Rep.all_at hall hx
    obtain ⟨a, b, rfl, h3, h4⟩ := h1
    have hb : ∀ b, S b → butS w g b := fun b hb => ⟨fun he => hne g rfl (he ▸ hb), (hS b hb).2⟩
    refine ⟨a, b, fun q u hu => ?_, h3.widen hb, h4.widen hb⟩
    have h5 := hown.cells (g := g) rfl (i * 9 + q) u (h2 q u hu)
    rw [add_at, Nat.zero_add] at h5
    exact h5
end
end Go.Proofs.Ytdfgnmdofjhnkaa

/- A frame that may be, with one thing changed: may it be? In plain Lean. -/
namespace Go.Proofs.Ytdfgnmdofjhnkaa
namespace Fr
theorem nums_of_right {f : Fr} (h : right f = true) (h6 : f.kind = 6) : okNums f ∧ f.path.all node = true := by
  obtain ⟨k, e, s, t, ps, i, n, c, p⟩ := f
  dsimp only at h6
  subst h6
  rw [right_6] at h
  by_cases ho : okNums ⟨6, e, s, t, ps, i, n, c, p⟩
  · exact ⟨ho, by rwa [rprobe_yes ho] at h⟩
  · rw [rprobe_no ho] at h; cases h
theorem rest_of_right {f : Fr} (h : right f = true) (h6 : f.kind ≠ 6) : okRest f := by
  apply Classical.byContradiction
  intro ho
  rw [right_no h6 ho] at h
  cases h
section
variable {f : Fr} {K : Int}
theorem named_0 (h : right f = true) (hK : 1 ≤ K ∧ K ≤ 5) : right { f with seq := K, letter := 0 } = (f.kind == 0) := by
  obtain ⟨k, e, s, t, ps, i, n, c, p⟩ := f
  dsimp only
  by_cases h6 : k = 6
  · subst h6
    rw [right_6, rprobe_no (fun ho => by have := ho.1.2.1; dsimp only at this; omega)]
    rfl
  · have ho := rest_of_right h h6
    by_cases h0 : k = 0
    · subst h0
      rw [right_0 ho rfl] at h
      have h := of_decide_eq_true h
      rw [right_0 (f := ⟨0, e, K, 0, ps, i, n, c, p⟩) ⟨ho.1, ho.2.1, ho.2.2.1, ho.2.2.2.1, fun q => absurd q (by dsimp only; omega)⟩ rfl]
      exact decide_eq_true ⟨h.1, by dsimp only; omega, by dsimp only; omega, by dsimp only; omega, by dsimp only; omega⟩
    · have hk := ho.1
      dsimp only at hk
      rw [right_no (f := ⟨k, e, K, 0, ps, i, n, c, p⟩) h6 (fun hq => by have := hq.2.2.2.2 (by dsimp only; omega); dsimp only at this; omega)]
      exact (beq_eq_false_iff_ne.2 h0).symm
theorem named_1 (h : right f = true) : right { f with pieces := [Pc.zero] } = (f.kind == 5) := by
  obtain ⟨k, e, s, t, ps, i, n, c, p⟩ := f
  dsimp only
  by_cases h6 : k = 6
  · subst h6
    rw [right_6, rprobe_no (fun ho => by have := ho.1.2.2.2; dsimp only [List.length_singleton] at this; omega)]
    rfl
  · have ho := rest_of_right h h6
    have ho' : okRest ⟨k, e, s, t, [Pc.zero], i, n, c, p⟩ := ho
    by_cases h0 : k = 0
    · subst h0
      rw [right_0 ho' rfl]
      exact decide_eq_false fun q => by have := q.1; dsimp only [List.length_singleton] at this; omega
    · by_cases h5 : k = 5
      · subst h5
        rw [right_5 ho' rfl]
        show ([Pc.zero].all Pc.right && Pc.within ((1 : Nat) : Int) 1 6) = ((5 : Int) == 5)
        decide
      · rw [right_n ho' h0 h5]
        rw [show decide ((⟨k, e, s, t, [Pc.zero], i, n, c, p⟩ : Fr).pieces.length = 0) = false from rfl]
        exact (beq_eq_false_iff_ne.2 h5).symm
theorem named_2 (h : right f = true) (hK : 1 ≤ K ∧ K ≤ 5) : right { f with num := K } = (f.kind == 6) := by
  obtain ⟨k, e, s, t, ps, i, n, c, p⟩ := f
  dsimp only
  by_cases h6 : k = 6
  · subst h6
    obtain ⟨⟨q1, q2, q3, q4, q5⟩, q6⟩ := nums_of_right h rfl
    rw [right_6, rprobe_yes (f := ⟨6, e, s, t, ps, i, K, c, p⟩) ⟨q1, q2, by dsimp only; omega, q4, q5⟩]
    exact q6
  · rw [right_no (f := ⟨k, e, s, t, ps, i, K, c, p⟩) h6 (fun hq => by have := hq.2.1.2.1; dsimp only at this; omega)]
    exact (beq_eq_false_iff_ne.2 h6).symm
theorem named_3 (h : right f = true) (hK : 1 ≤ K ∧ K ≤ 5) : right { f with count := K } = (f.kind == 6) := by
  obtain ⟨k, e, s, t, ps, i, n, c, p⟩ := f
  dsimp only
  by_cases h6 : k = 6
  · subst h6
    obtain ⟨⟨q1, q2, q3, q4, q5⟩, q6⟩ := nums_of_right h rfl
    rw [right_6, rprobe_yes (f := ⟨6, e, s, t, ps, i, n, K, p⟩) ⟨q1, q2, q3, by dsimp only; omega, q5⟩]
    exact q6
  · rw [right_no (f := ⟨k, e, s, t, ps, i, n, K, p⟩) h6 (fun hq => by have := hq.2.1.2.2.1; dsimp only at this; omega)]
    exact (beq_eq_false_iff_ne.2 h6).symm
theorem named_4 (h : right f = true) : right { f with path := [0] } = (f.kind == 6) := by
  obtain ⟨k, e, s, t, ps, i, n, c, p⟩ := f
  dsimp only
  by_cases h6 : k = 6
  · subst h6
    obtain ⟨⟨q1, q2, q3, q4, q5⟩, q6⟩ := nums_of_right h rfl
    rw [right_6, rprobe_yes (f := ⟨6, e, s, t, ps, i, n, c, [0]⟩) ⟨q1, q2, q3, q4, by dsimp only [List.length_singleton]; omega, by dsimp only [List.length_singleton]; omega⟩]
    rfl
  · rw [right_no (f := ⟨k, e, s, t, ps, i, n, c, [0]⟩) h6 (fun hq => by have := hq.2.1.2.2.2; dsimp only [List.length_singleton] at this; omega)]
    exact (beq_eq_false_iff_ne.2 h6).symm
theorem named_5 (h : right f = true) (hK : 1 ≤ K ∧ K ≤ 5) : right { f with epoch := K } = (f.kind != 6) := by
  obtain ⟨k, e, s, t, ps, i, n, c, p⟩ := f
  dsimp only
  by_cases h6 : k = 6
  · subst h6
    rw [right_6, rprobe_no (fun ho => by have := ho.1.1; dsimp only at this; omega)]
    rfl
  · have ho := rest_of_right h h6
    have ho' : okRest ⟨k, K, s, t, ps, i, n, c, p⟩ := ⟨ho.1, ho.2.1, ⟨by dsimp only; omega, by dsimp only; omega⟩, fun _ => hK.1, ho.2.2.2.2⟩
    have hb : (k != 6) = true := by simp [bne, beq_eq_false_iff_ne.2 h6]
    rw [hb]
    by_cases h0 : k = 0
    · subst h0
      rw [right_0 ho rfl] at h
      rw [right_0 ho' rfl]
      exact h
    · by_cases h5 : k = 5
      · subst h5
        rw [right_5 ho rfl] at h
        rw [right_5 ho' rfl]
        exact h
      · rw [right_n ho h0 h5] at h
        rw [right_n ho' h0 h5]
        exact h
end
end Fr
end Go.Proofs.Ytdfgnmdofjhnkaa
