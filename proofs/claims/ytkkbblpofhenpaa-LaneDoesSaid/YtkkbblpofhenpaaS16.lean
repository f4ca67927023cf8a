/- Lemmas, walks and contracts that the statements of this seat are proved by. -/
import Derived.Test.YtkkbblpofhenpaaS15
import Derived.Test.YtkkbblpofhenpaaS4
/- Takes whose answers are kept in new boxes; lanes that may be stay so. -/
namespace Go.Proofs.Ytkkbblpofhenpaa
open Go.RowKit
theorem SliceAt.lop {fr : Bool} {w : World} {lo hi k : Nat} {A : Option Addr} {xs : List LOp} {x : LOp} (h : SliceAt Rep.lop fr w lo hi A xs) (hx : xs[k]? = some x) :
    ∃ g o aA aB ak al, A = some ⟨g, o, none⟩ ∧ g < hi ∧ w.cell? ⟨g, o + k * 11, none⟩ = some (.bool x.push) ∧ (∀ q u, (fcells x.f (.slice aA x.f.pieces.length ak) (.slice aB x.f.path.length al))[q]? = some u → w.cell? ⟨g, o + k * 11 + 1 + q, none⟩ = some u) ∧ w.cell? ⟨g, o + k * 11 + 10, none⟩ = some (.int .i64 x.i) ∧
      FrOn fr w (rng lo hi) (.agg #[.int .i64 x.f.kind, .int .i64 x.f.epoch, .int .i64 x.f.seq, .int .i64 x.f.letter, .slice aA x.f.pieces.length ak, .int .i64 x.f.init, .int .i64 x.f.num, .int .i64 x.f.count, .slice aB x.f.path.length al]) x.f ∧ (Lit.int .i64 x.i).wf = true := by
  obtain ⟨g, o, cs, rfl, h1, ⟨a, b, rfl, h3, h4, h5⟩, h6⟩ := AtOn.at_ h hx
  obtain ⟨aA, ak, rfl, _⟩ := id h3
  obtain ⟨aB, al, rfl, _⟩ := id h4
  have e0 := (h6 0 _ rfl).1
  have e10 := (h6 10 _ rfl).1
  refine ⟨g, o, aA, aB, ak, al, rfl, h1.2, by simpa [Rep.lop] using e0, fun q u hu => ?_, by simpa [Rep.lop, Nat.add_assoc] using e10, ⟨aA, aB, ak, al, rfl, h3, h4⟩, h5⟩
  have hl : q < 9 := by
    have := (List.getElem?_eq_some_iff.1 hu).1
    simpa [fcells] using this
  have := (h6 (q + 1) u (by rw [List.getElem?_cons_succ, List.getElem?_append_left (by simpa [fcells] using hl)]; exact hu)).1
  rw [show o + (k * Rep.lop.size + (q + 1)) = o + k * 11 + 1 + q from by show o + (k * 11 + (q + 1)) = _; omega] at this
  exact this
theorem la_nil {w : World} {lo hi lo' hi' : Nat} {fi : Bool} {cp : Int} {A : Option Addr} {c : Nat} (h : LaIs false w lo hi (.agg #[.bool fi, .int .i64 cp, .slice A 0 c]) ⟨fi, cp, []⟩) : LaIs false w lo' hi' (.agg #[.bool fi, .int .i64 cp, .slice A 0 c]) ⟨fi, cp, []⟩ := by
  obtain ⟨A2, c2, he, A3, c3, e3, h1, h2, _⟩ := h
  injection he with he
  simp at he
  injection e3 with e4 e5 e6
  obtain ⟨rfl, rfl⟩ := he
  exact ⟨_, _, rfl, SliceIs.nil_any _ _ (by subst e6; exact h2)⟩
/-- Since w0 only new blocks were written. -/
def Since (w0 w : World) : Prop := Below w0.heap.size w0 w
theorem Since.refl (w : World) : Since w w := Below.refl _ _
theorem Since.next {w0 w w' : World} (h : Since w0 w) (hb : Below w.heap.size w w') : Since w0 w' := Below.trans h (hb.mono (Below.size h))
theorem Since.size {w0 w : World} (h : Since w0 w) : w0.heap.size ≤ w.heap.size := Below.size h
theorem Since.block {w0 w : World} (h : Since w0 w) (k : Nat) (hk : k < w0.heap.size) : w.heap[k]? = w0.heap[k]? := Below.block h k hk
/-- What was read stays while only new blocks are written. -/
def KLa (w : World) (S : Nat → Prop) (v : Value) (a : La) : Prop := LaOn w S v a ∧ ∀ k, S k → k < w.heap.size
def KFr (w : World) (S : Nat → Prop) (v : Value) (f : Fr) : Prop := FrOn false w S v f ∧ ∀ k, S k → k < w.heap.size
section
variable {w w' : World} {S : Nat → Prop} {v : Value} {a : La} {f : Fr}
theorem KLa.next (h : KLa w S v a) (hb : Below w.heap.size w w') : KLa w' S v a := ⟨h.1.keep fun k q => hb.block k (h.2 k q), fun k q => Nat.lt_of_lt_of_le (h.2 k q) hb.size⟩
theorem KFr.next (h : KFr w S v f) (hb : Below w.heap.size w w') : KFr w' S v f := ⟨h.1.keep fun k q => hb.block k (h.2 k q), fun k q => Nat.lt_of_lt_of_le (h.2 k q) hb.size⟩
theorem KLa.is_ (h : KLa w S v a) : LaIs false w 0 w.heap.size v a := h.1.is_ h.2
theorem KFr.is_ (h : KFr w S v f) : FrIs false w 0 w.heap.size v f := h.1.is_ h.2
theorem KLa.move (h : KLa w S v a) (hk : ∀ k, S k → w'.heap[k]? = w.heap[k]?) (hz : w'.heap.size = w.heap.size) : KLa w' S v a := ⟨h.1.keep hk, fun k q => by rw [hz]; exact h.2 k q⟩
end
/-- An answer of a take, kept in two new boxes; the lane that was handed in lies in lo .. hi. -/
def TakePost (T L : TypeId) (W : World) (lo hi : Nat) (n : Int) (p : Fr) (b : La) (x y z : Value) (w : World) : Prop :=
  ∃ g1 g2 E A k B l C c, x = .pointer (some ⟨g1, 0, none⟩) ∧ y = .pointer (some ⟨g2, 0, none⟩) ∧ z = .int .i64 n ∧
    Box w g1 #[.int .i64 p.kind, .int .i64 p.epoch, .int .i64 p.seq, .int .i64 p.letter, .slice A p.pieces.length k, .int .i64 p.init, .int .i64 p.num, .int .i64 p.count, .slice B p.path.length l] T ∧ Box w g2 #[.bool b.fifo, .int .i64 b.cap, .slice C b.l.length c] L ∧
    KFr w (also (rng lo hi) W.heap.size E) (.agg #[.int .i64 p.kind, .int .i64 p.epoch, .int .i64 p.seq, .int .i64 p.letter, .slice A p.pieces.length k, .int .i64 p.init, .int .i64 p.num, .int .i64 p.count, .slice B p.path.length l]) p ∧ KLa w (also (rng lo hi) W.heap.size E) (.agg #[.bool b.fifo, .int .i64 b.cap, .slice C b.l.length c]) b ∧ W.heap.size ≤ g1 ∧ W.heap.size ≤ g2 ∧ Below W.heap.size W w
theorem TakePost.mk_ {T L : TypeId} {W y : World} {lo hi g1 g2 k l c : Nat} {n : Int} {p : Fr} {b : La} {A B C : Option Addr} {x0 x1 x2 a0 a1 a2 a3 a4 a5 a6 a7 a8 : Value} {S : Nat → Prop} (hg1 : Box y g1 #[a0, a1, a2, a3, a4, a5, a6, a7, a8] T) (hg2 : Box y g2 #[x0, x1, x2] L) (hne : g1 ≠ g2) (hS : ∀ k, S k → (rng lo hi k ∨ W.heap.size ≤ k) ∧ k < y.heap.size ∧ k ≠ g1 ∧ k ≠ g2) (hhi : hi ≤ y.heap.size)
    (hp : FrOn false y S (.agg #[.int .i64 p.kind, .int .i64 p.epoch, .int .i64 p.seq, .int .i64 p.letter, .slice A p.pieces.length k, .int .i64 p.init, .int .i64 p.num, .int .i64 p.count, .slice B p.path.length l]) p) (hu : LaOn y S (.agg #[.bool b.fifo, .int .i64 b.cap, .slice C b.l.length c]) b) (h1 : W.heap.size ≤ g1) (h2 : W.heap.size ≤ g2) (hV : Below W.heap.size W y) :
    TakePost T L W lo hi n p b (.pointer (some ⟨g1, 0, none⟩)) (.pointer (some ⟨g2, 0, none⟩)) (.int .i64 n) ((((wnine y g1 (.int .i64 p.kind) (.int .i64 p.epoch) (.int .i64 p.seq) (.int .i64 p.letter) (.slice A p.pieces.length k) (.int .i64 p.init) (.int .i64 p.num) (.int .i64 p.count) (.slice B p.path.length l)).setCell ⟨g2, 0, none⟩ (.bool b.fifo)).setCell ⟨g2, 1, none⟩ (.int .i64 b.cap)).setCell ⟨g2, 2, none⟩ (.slice C b.l.length c)) := by
  have hw : ∀ k, S k → also (rng lo hi) W.heap.size y.heap.size k := fun k hk => (hS k hk).1.imp id fun q => ⟨q, (hS k hk).2.1⟩
  have hlt : ∀ k, also (rng lo hi) W.heap.size y.heap.size k → k < y.heap.size := fun k hk => hk.elim (fun q => Nat.lt_of_lt_of_le q.2 hhi) (fun q => q.2)
  refine ⟨g1, g2, y.heap.size, A, k, B, l, C, c, rfl, rfl, rfl, ?_, ?_, ⟨?_, ?_⟩, ⟨?_, ?_⟩, h1, h2, (((nine_below hV h1).setCell h2 _).setCell h2 _).setCell h2 _⟩
  · exact (three_other hne).trans (nine_box hg1)
  · exact blk_set (blk_set (blk_set ((nine_far (Ne.symm hne)).trans hg2) 0 _) 1 _) 2 _
  · exact (hp.keep fun q hq => (three_other (hS q hq).2.2.2).trans (nine_far (hS q hq).2.2.1)).widen hw
  · intro q hq; rw [three_size, nine_size]; exact hlt q hq
  · exact (hu.keep fun q hq => (three_other (hS q hq).2.2.2).trans (nine_far (hS q hq).2.2.1)).widen hw
  · intro q hq; rw [three_size, nine_size]; exact hlt q hq
namespace La
theorem right_less {a : La} {k : Nat} (hk : k < a.l.length) (h : La.right a = true) : La.right (La.less a k) = true := by
  unfold La.right La.roomy at h ⊢
  simp only [Bool.and_eq_true, decide_eq_true_eq] at h ⊢
  obtain ⟨h1, h2, h3, h4, h5⟩ := h
  have hl : a.l = a.l.take k ++ a.l[k] :: a.l.drop (k + 1) := by rw [← List.drop_eq_getElem_cons hk, List.take_append_drop]
  have hc : ∀ q, La.cnt q a.l = La.cnt q (a.l.take k ++ a.l.drop (k + 1)) + (if a.l[k].kind = q then 1 else 0) := by
    intro q
    have e : La.cnt q a.l = La.cnt q (a.l.take k ++ a.l[k] :: a.l.drop (k + 1)) := by rw [← hl]
    rw [e]
    unfold La.cnt
    rw [List.filter_append, List.filter_append, List.length_append, List.length_append, List.filter_cons]
    by_cases hq : a.l[k].kind = q <;> simp [hq] <;> omega
  have hlen : (a.l.take k ++ a.l.drop (k + 1)).length + 1 = a.l.length := by
    rw [List.length_append, List.length_take, List.length_drop]; omega
  have h0 := hc 0
  show ((a.l.take k ++ a.l.drop (k + 1)).all Fr.right = true) ∧ _ ∧ _ ∧ ((La.cnt 0 (a.l.take k ++ a.l.drop (k + 1)) : Nat) : Int) ≤ a.cap ∧ (((a.l.take k ++ a.l.drop (k + 1)).length : Nat) : Int) - ((La.cnt 0 (a.l.take k ++ a.l.drop (k + 1)) : Nat) : Int) ≤ 5
  refine ⟨?_, h2, h3, ?_, ?_⟩
  · rw [List.all_eq_true] at h1 ⊢
    intro f hf
    rcases List.mem_append.1 hf with hf | hf
    · exact h1 f (List.mem_of_mem_take hf)
    · exact h1 f (List.mem_of_mem_drop hf)
  · by_cases hq : a.l[k].kind = 0 <;> simp [hq] at h0 <;> omega
  · by_cases hq : a.l[k].kind = 0 <;> simp [hq] at h0 <;> omega
theorem push_right {a : La} {f : Fr} (h : La.pushE a f = 0) : La.right (La.push a f) = true := by
  unfold La.pushE at h
  unfold La.push
  cases h1 : Fr.right f <;> rw [h1] at h
  · simp at h
  · cases h2 : La.right (La.more a f) <;> rw [h2] at h
    · simp at h
    · simpa using h2
theorem take_right {a : La} {i : Int} (hr : La.right a = true) (h : La.takeE a i = 0) : La.right (La.take a i) = true := by
  unfold La.takeE at h
  unfold La.take
  cases hc : La.can a i <;> rw [hc] at h
  · simp at h
  · obtain ⟨k, rfl, h1, _⟩ := La.can_yes hc
    simpa using right_less h1 hr
end La
end Go.Proofs.Ytkkbblpofhenpaa
