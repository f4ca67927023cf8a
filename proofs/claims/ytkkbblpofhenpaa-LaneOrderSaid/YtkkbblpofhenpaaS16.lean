/- Lemmas, walks and contracts that the statements of this seat are proved by. -/
import Derived.Test.YtkkbblpofhenpaaS15
import Derived.Test.YtkkbblpofhenpaaS9
import Derived.Test.YtkkbblpofhenpaaS4
/- Frames written into a lane's own row. -/
namespace Go.Proofs.Ytkkbblpofhenpaa
open Go.RowKit
theorem La.cut_cut (a : La) : La.cut (La.cut a) = La.cut a := by
  unfold La.cut
  simp only [La.mk.injEq, true_and]
  rw [← List.map_take, List.take_take, Nat.min_self, List.map_map]
  congr 1
  funext f
  exact Fr.cut_cut f
/-- A row of n frames that may be written, in block ob. -/
def Row9 (w : World) (ob : Option Nat) (A : Option Addr) (n : Nat) : Prop := 0 < n → ∃ g cur, A = some ⟨g, 0, none⟩ ∧ ob = some g ∧ w.heap[g]? = some (.cells cur 37 (0, 0)) ∧ n * 9 ≤ cur.size
theorem Row9.next {w w' : World} {ob : Option Nat} {A : Option Addr} {n : Nat} (h : Row9 w ob A n) (hb : Below w.heap.size w w') : Row9 w' ob A n := fun h0 => by
  obtain ⟨g, cur, h1, h2, h3, h4⟩ := h h0
  exact ⟨g, cur, h1, h2, (hb.block g (lt_of_block h3)).trans h3, h4⟩
theorem Row9.grown {w w' : World} {ob oc : Option Nat} {A : Option Addr} {n : Nat} (h : Row9 w ob A n) (hb : w.grownBy w' oc) (hne : ∀ g, ob = some g → oc ≠ some g) : Row9 w' ob A n := fun h0 => by
  obtain ⟨g, cur, h1, h2, h3, h4⟩ := h h0
  exact ⟨g, cur, h1, h2, (hb.block g (lt_of_block h3) (fun e => hne g h2 e.symm)).trans h3, h4⟩
theorem LaNew.row {w : World} {S : Nat → Prop} {B c : Nat} {A : Option Addr} {b : La} (h : LaNew w S B (.agg #[.bool b.fifo, .int .i64 b.cap, .slice A b.l.length c]) b) : ∃ ob, (∀ g, ob = some g → B ≤ g ∧ g < w.heap.size) ∧ Row9 w ob A b.l.length := by
  obtain ⟨A2, c2, he, _, h2⟩ := h
  have hA : A2 = A := by
    injection he with he
    simp at he
    exact he.1.symm
  subst hA
  by_cases h0 : 0 < b.l.length
  · obtain ⟨g, cur, k1, k2, k3, k4⟩ := h2 h0
    exact ⟨some g, fun q e => by cases e; exact ⟨k2, lt_of_block k3⟩, fun _ => ⟨g, cur, k1, rfl, k3, k4⟩⟩
  · exact ⟨none, fun q e => (by cases e), fun h => absurd h h0⟩
theorem cell_in {w : World} {g i : Nat} {cur : Array Value} {T : TypeId} (h : w.heap[g]? = some (.cells cur T (0, 0))) (hi : i < cur.size) : ∃ v, w.cell? ⟨g, i, none⟩ = some v := ⟨cur[i], by rw [blk_cell h, Array.getElem?_eq_getElem hi]⟩
theorem row9_block {w : World} {g o : Nat} {cur : Array Value} {T : TypeId} {a0 a1 a2 a3 a4 a5 a6 a7 a8 : Value} (h : w.heap[g]? = some (.cells cur T (0, 0))) :
    ∃ cur', (((((((((w.setCell ⟨g, o, none⟩ a0).setCell ⟨g, o + 1, none⟩ a1).setCell ⟨g, o + 2, none⟩ a2).setCell ⟨g, o + 3, none⟩ a3).setCell ⟨g, o + 4, none⟩ a4).setCell ⟨g, o + 5, none⟩ a5).setCell ⟨g, o + 6, none⟩ a6).setCell ⟨g, o + 7, none⟩ a7).setCell ⟨g, o + 8, none⟩ a8).heap[g]? = some (.cells cur' T (0, 0)) ∧ cur'.size = cur.size := by
  have h0 := blk_set h o a0
  have h1 := blk_set h0 (o + 1) a1
  have h2 := blk_set h1 (o + 2) a2
  have h3 := blk_set h2 (o + 3) a3
  have h4 := blk_set h3 (o + 4) a4
  have h5 := blk_set h4 (o + 5) a5
  have h6 := blk_set h5 (o + 6) a6
  have h7 := blk_set h6 (o + 7) a7
  have h8 := blk_set h7 (o + 8) a8
  exact ⟨_, h8, by simp only [Array.size_setIfInBounds]⟩
theorem Row9.step {W w : World} {g o n : Nat} {cur : Array Value} {a0 a1 a2 a3 a4 a5 a6 a7 a8 : Value} (hg : W.grownBy w (some g)) (h : w.heap[g]? = some (.cells cur 37 (0, 0))) (hn : n * 9 ≤ cur.size) :
    W.grownBy (((((((((w.setCell ⟨g, o, none⟩ a0).setCell ⟨g, o + 1, none⟩ a1).setCell ⟨g, o + 2, none⟩ a2).setCell ⟨g, o + 3, none⟩ a3).setCell ⟨g, o + 4, none⟩ a4).setCell ⟨g, o + 5, none⟩ a5).setCell ⟨g, o + 6, none⟩ a6).setCell ⟨g, o + 7, none⟩ a7).setCell ⟨g, o + 8, none⟩ a8) (some g) ∧
    Row9 (((((((((w.setCell ⟨g, o, none⟩ a0).setCell ⟨g, o + 1, none⟩ a1).setCell ⟨g, o + 2, none⟩ a2).setCell ⟨g, o + 3, none⟩ a3).setCell ⟨g, o + 4, none⟩ a4).setCell ⟨g, o + 5, none⟩ a5).setCell ⟨g, o + 6, none⟩ a6).setCell ⟨g, o + 7, none⟩ a7).setCell ⟨g, o + 8, none⟩ a8) (some g) (some ⟨g, 0, none⟩) n := by
  have hb := row9_below (o := o) (a0 := a0) (a1 := a1) (a2 := a2) (a3 := a3) (a4 := a4) (a5 := a5) (a6 := a6) (a7 := a7) (a8 := a8) (Below.refl g w) (Nat.le_refl g)
  refine ⟨⟨hb.os.trans hg.os, hb.tape.trans hg.tape, hb.output.trans hg.output, Nat.le_trans hg.size hb.size, fun k hk hne => ?_⟩, fun _ => ?_⟩
  · rw [row9_far (fun e => hne (congrArg some e))]; exact hg.block k hk hne
  · obtain ⟨cur', h1, h2⟩ := row9_block (o := o) (a0 := a0) (a1 := a1) (a2 := a2) (a3 := a3) (a4 := a4) (a5 := a5) (a6 := a6) (a7 := a7) (a8 := a8) h
    exact ⟨g, cur', rfl, rfl, h1, by rw [h2]; exact hn⟩
theorem grown_trans_below {W w : World} {B : Nat} {ob : Option Nat} (h : W.grownBy w ob) (hB : ∀ g, ob = some g → B ≤ g) (hW : B ≤ W.heap.size) : Below B W w :=
  ⟨h.os, h.tape, h.output, h.size, fun k hk => h.block k (Nat.lt_of_lt_of_le hk hW) (fun e => by have := hB k e.symm; omega)⟩
end Go.Proofs.Ytkkbblpofhenpaa

/- Lanes of messages and of other frames: what goes in. -/
namespace Go.Proofs.Ytkkbblpofhenpaa
open Go.RowKit
theorem SliceAt.bool {fr : Bool} {w : World} {lo hi k : Nat} {A : Option Addr} {xs : List Bool} {x : Bool} (h : SliceAt Rep.bool fr w lo hi A xs) (hx : xs[k]? = some x) :
    ∃ g o, A = some ⟨g, o, none⟩ ∧ lo ≤ g ∧ g < hi ∧ w.cell? ⟨g, o + k, none⟩ = some (.bool x) := by
  obtain ⟨g, o, cs, rfl, h1, h3, h4⟩ := AtOn.at_ h hx
  have h3' : cs = [.bool x] := h3
  subst h3'
  have := (h4 0 _ rfl).1
  exact ⟨g, o, rfl, h1.1, h1.2, by simpa [Rep.bool] using this⟩
theorem appF_right {k : Int} (h1 : 1 ≤ k) (h2 : k ≤ 500) : Fr.right (appF k) = true := by
  simp [Fr.right, Fr.only, Fr.rule, Fr.app, Pc.within, appF, h1, h2]
def yesF : Fr := ⟨3, 1, 0, 0, [], 0, 0, 0, []⟩
theorem yesF_right : Fr.right yesF = true := by decide
theorem yesF_on (w : World) (S : Nat → Prop) : FrOn false w S (.agg #[.int .i64 3, .int .i64 1, .int .i64 0, .int .i64 0, .slice none 0 0, .int .i64 0, .int .i64 0, .int .i64 0, .slice none 0 0]) yesF := ⟨none, none, 0, 0, rfl, SliceOn.none_, SliceOn.none_⟩
/-- p messages and o others, as many as may be. -/
structure FullInv (l : List Fr) (R : Int) (p o : Nat) : Prop where
  r1 : 1 ≤ R
  r2 : R ≤ 20
  all : l.all Fr.right = true
  c0 : La.cnt 0 l = p
  c3 : La.cnt 3 l = o
  len : l.length = p + o
  pR : (p : Int) ≤ R
  o5 : o ≤ 5
section
variable {l : List Fr} {R : Int} {p o : Nat} {fi : Bool}
theorem FullInv.nil (h1 : 1 ≤ R) (h2 : R ≤ 20) : FullInv [] R 0 0 := ⟨h1, h2, rfl, rfl, rfl, rfl, by omega, by omega⟩
theorem FullInv.right (h : FullInv l R p o) : La.right ⟨fi, R, l⟩ = true := by
  have := h.r1; have := h.r2; have := h.len; have := h.pR; have := h.o5
  unfold La.right La.roomy
  rw [h.all, h.c0, h.len, decide_eq_true h.r1, decide_eq_true h.r2, decide_eq_true h.pR, decide_eq_true (by omega)]; rfl
theorem FullInv.app_yes (h : FullInv l R p o) {k : Int} (h1 : 1 ≤ k) (h2 : k ≤ 500) (hp : (p : Int) < R) : FullInv (l ++ [appF k]) R (p + 1) o ∧ La.push ⟨fi, R, l⟩ (appF k) = ⟨fi, R, l ++ [appF k]⟩ ∧ La.pushE ⟨fi, R, l⟩ (appF k) = 0 := by
  have hi : FullInv (l ++ [appF k]) R (p + 1) o := ⟨h.r1, h.r2, by rw [List.all_append, h.all]; simp [appF_right h1 h2], by rw [La.cnt_snoc, h.c0]; rfl, by rw [La.cnt_snoc, h.c3]; rfl, by rw [List.length_append, h.len]; simp; omega, by omega, h.o5⟩
  exact ⟨hi, La.push_ok (appF_right h1 h2) hi.right⟩
theorem FullInv.app_no (h : FullInv l R p o) {k : Int} (h1 : 1 ≤ k) (h2 : k ≤ 500) (hp : ¬ (p : Int) < R) : La.push ⟨fi, R, l⟩ (appF k) = ⟨false, 0, []⟩ ∧ La.pushE ⟨fi, R, l⟩ (appF k) = 6 := by
  refine La.push_full (appF_right h1 h2) ?_
  have hc : La.cnt 0 (l ++ [appF k]) = p + 1 := by rw [La.cnt_snoc, h.c0]; rfl
  unfold La.right La.roomy La.more
  rw [hc, decide_eq_false (show ¬ (((p + 1 : Nat) : Int) ≤ R) by omega)]; simp
theorem FullInv.yes_yes (h : FullInv l R p o) (hp : o < 5) : FullInv (l ++ [yesF]) R p (o + 1) ∧ La.push ⟨fi, R, l⟩ yesF = ⟨fi, R, l ++ [yesF]⟩ ∧ La.pushE ⟨fi, R, l⟩ yesF = 0 := by
  have hi : FullInv (l ++ [yesF]) R p (o + 1) := ⟨h.r1, h.r2, by rw [List.all_append, h.all]; simp [yesF_right], by rw [La.cnt_snoc, h.c0]; rfl, by rw [La.cnt_snoc, h.c3]; rfl, by rw [List.length_append, h.len]; simp; omega, h.pR, by omega⟩
  exact ⟨hi, La.push_ok yesF_right hi.right⟩
theorem FullInv.yes_no (h : FullInv l R p o) (hp : ¬ o < 5) : La.push ⟨fi, R, l⟩ yesF = ⟨false, 0, []⟩ ∧ La.pushE ⟨fi, R, l⟩ yesF = 6 := by
  refine La.push_full yesF_right ?_
  have hc : La.cnt 0 (l ++ [yesF]) = p := by rw [La.cnt_snoc, h.c0]; rfl
  have := h.len
  unfold La.right La.roomy La.more
  rw [hc, decide_eq_false (show ¬ ((((l ++ [yesF]).length : Nat) : Int) - (p : Int) ≤ 5) by rw [List.length_append, h.len]; simp; omega)]; simp
theorem FullInv.fits1 (h : FullInv l R p o) {q : Bool} (hq : decide ((p : Int) < R) = q) : La.fits ⟨fi, R, l⟩ 1 = q := by
  unfold La.fits
  rw [h.c0, ← hq]
  by_cases hp : (p : Int) < R
  · rw [decide_eq_true hp, decide_eq_true (show (1 : Int) ≤ R - (p : Int) by omega)]; simp
  · rw [decide_eq_false hp, decide_eq_false (show ¬ ((1 : Int) ≤ R - (p : Int)) by omega)]; simp
end
end Go.Proofs.Ytkkbblpofhenpaa

/- Takes whose answers are kept in new boxes; lanes that may be stay so. -/
namespace Go.Proofs.Ytkkbblpofhenpaa
open Go.RowKit
theorem SliceAt.lop {fr : Bool} {w : World} {lo hi k : Nat} {A : Option Addr} {xs : List LOp} {x : LOp} (h : SliceAt Rep.lop fr w lo hi A xs) (hx : xs[k]? = some x) :
    ∃ g o aA aB ak al, A = some ⟨g, o, none⟩ ∧ g < hi ∧ w.cell? ⟨g, o + k * 11, none⟩ = some (.bool x.push) ∧ (∀ q u, (fcells x.f (.slice aA x.f.pieces.length ak) (.slice aB x.f.path.length al))[q]? = some u → w.cell? ⟨g, o + k * 11 + 1 + q, none⟩ = some u) ∧ w.cell? ⟨g, o + k * 11 + 10, none⟩ = some (.int .i64 x.i) ∧
      FrOn fr w (rng lo hi) (.agg #[.int .i64 x.f.kind, .int .i64 x.f.epoch, .int .i64 x.f.seq, .int .i64 x.f.letter, .slice aA x.f.pieces.length ak, .int .i64 x.f.init, .int .i64 x.f.num, .int .i64 x.f.count, .slice aB x.f.path.length al]) x.f ∧ (Lit.int .i64 x.i).wf = true := by
  obtain ⟨g, o, cs, rfl, h1, ⟨a, b, rfl, h3, h4, h5⟩, h6⟩ := AtOn.at_ h hx
  obtain ⟨aA, ak, rfl, _⟩ := id h3
  obtain ⟨aB, al, rfl, _⟩ := id h4
  have e0 := (h6 0 _ rfl).1
  have e10 := (h6 10 _ rfl).1
  refine ⟨g, o, aA, aB, ak, al, rfl, h1.2, by simpa [Rep.lop] using e0, fun q u hu => ?_, by simpa [Rep.lop, Nat.add_assoc] using e10, ⟨aA, aB, ak, al, rfl, h3, h4⟩, h5⟩
  have hl : q < 9 := by
    have := (List.getElem?_eq_some_iff.1 hu).1
    simpa [fcells] using this
  have := (h6 (q + 1) u (by rw [List.getElem?_cons_succ, List.getElem?_append_left (by simpa [fcells] using hl)]; exact hu)).1
  rw [show o + (k * Rep.lop.size + (q + 1)) = o + k * 11 + 1 + q from by show o + (k * 11 + (q + 1)) = _; omega] at this
  exact this
theorem la_nil {w : World} {lo hi lo' hi' : Nat} {fi : Bool} {cp : Int} {A : Option Addr} {c : Nat} (h : LaIs false w lo hi (.agg #[.bool fi, .int .i64 cp, .slice A 0 c]) ⟨fi, cp, []⟩) : LaIs false w lo' hi' (.agg #[.bool fi, .int .i64 cp, .slice A 0 c]) ⟨fi, cp, []⟩ := by
  obtain ⟨A2, c2, he, A3, c3, e3, h1, h2, _⟩ := h
  injection he with he
  simp at he
  injection e3 with e4 e5 e6
  obtain ⟨rfl, rfl⟩ := he
  exact ⟨_, _, rfl, SliceIs.nil_any _ _ (by subst e6; exact h2)⟩
/-- Since w0 only new blocks were written. -/
def Since (w0 w : World) : Prop := Below w0.heap.size w0 w
theorem Since.refl (w : World) : Since w w := Below.refl _ _
theorem Since.next {w0 w w' : World} (h : Since w0 w) (hb : Below w.heap.size w w') : Since w0 w' := Below.trans h (hb.mono (Below.size h))
theorem Since.size {w0 w : World} (h : Since w0 w) : w0.heap.size ≤ w.heap.size := Below.size h
theorem Since.block {w0 w : World} (h : Since w0 w) (k : Nat) (hk : k < w0.heap.size) : w.heap[k]? = w0.heap[k]? := Below.block h k hk
/-- What was read stays while only new blocks are written. -/
def KLa (w : World) (S : Nat → Prop) (v : Value) (a : La) : Prop := LaOn w S v a ∧ ∀ k, S k → k < w.heap.size
def KFr (w : World) (S : Nat → Prop) (v : Value) (f : Fr) : Prop := FrOn false w S v f ∧ ∀ k, S k → k < w.heap.size
section
variable {w w' : World} {S : Nat → Prop} {v : Value} {a : La} {f : Fr}
theorem KLa.next (h : KLa w S v a) (hb : Below w.heap.size w w') : KLa w' S v a := ⟨h.1.keep fun k q => hb.block k (h.2 k q), fun k q => Nat.lt_of_lt_of_le (h.2 k q) hb.size⟩
theorem KFr.next (h : KFr w S v f) (hb : Below w.heap.size w w') : KFr w' S v f := ⟨h.1.keep fun k q => hb.block k (h.2 k q), fun k q => Nat.lt_of_lt_of_le (h.2 k q) hb.size⟩
theorem KLa.is_ (h : KLa w S v a) : LaIs false w 0 w.heap.size v a := h.1.is_ h.2
theorem KFr.is_ (h : KFr w S v f) : FrIs false w 0 w.heap.size v f := h.1.is_ h.2
theorem KLa.move (h : KLa w S v a) (hk : ∀ k, S k → w'.heap[k]? = w.heap[k]?) (hz : w'.heap.size = w.heap.size) : KLa w' S v a := ⟨h.1.keep hk, fun k q => by rw [hz]; exact h.2 k q⟩
end
/-- An answer of a take, kept in two new boxes; the lane that was handed in lies in lo .. hi. -/
def TakePost (T L : TypeId) (W : World) (lo hi : Nat) (n : Int) (p : Fr) (b : La) (x y z : Value) (w : World) : Prop :=
  ∃ g1 g2 E A k B l C c, x = .pointer (some ⟨g1, 0, none⟩) ∧ y = .pointer (some ⟨g2, 0, none⟩) ∧ z = .int .i64 n ∧
    Box w g1 #[.int .i64 p.kind, .int .i64 p.epoch, .int .i64 p.seq, .int .i64 p.letter, .slice A p.pieces.length k, .int .i64 p.init, .int .i64 p.num, .int .i64 p.count, .slice B p.path.length l] T ∧ Box w g2 #[.bool b.fifo, .int .i64 b.cap, .slice C b.l.length c] L ∧
    KFr w (also (rng lo hi) W.heap.size E) (.agg #[.int .i64 p.kind, .int .i64 p.epoch, .int .i64 p.seq, .int .i64 p.letter, .slice A p.pieces.length k, .int .i64 p.init, .int .i64 p.num, .int .i64 p.count, .slice B p.path.length l]) p ∧ KLa w (also (rng lo hi) W.heap.size E) (.agg #[.bool b.fifo, .int .i64 b.cap, .slice C b.l.length c]) b ∧ W.heap.size ≤ g1 ∧ W.heap.size ≤ g2 ∧ Below W.heap.size W w
theorem TakePost.mk_ {T L : TypeId} {W y : World} {lo hi g1 g2 k l c : Nat} {n : Int} {p : Fr} {b : La} {A B C : Option Addr} {x0 x1 x2 a0 a1 a2 a3 a4 a5 a6 a7 a8 : Value} {S : Nat → Prop} (hg1 : Box y g1 #[a0, a1, a2, a3, a4, a5, a6, a7, a8] T) (hg2 : Box y g2 #[x0, x1, x2] L) (hne : g1 ≠ g2) (hS : ∀ k, S k → (rng lo hi k ∨ W.heap.size ≤ k) ∧ k < y.heap.size ∧ k ≠ g1 ∧ k ≠ g2) (hhi : hi ≤ y.heap.size)
    (hp : FrOn false y S (.agg #[.int .i64 p.kind, .int .i64 p.epoch, .int .i64 p.seq, .int .i64 p.letter, .slice A p.pieces.length k, .int .i64 p.init, .int .i64 p.num, .int .i64 p.count, .slice B p.path.length l]) p) (hu : LaOn y S (.agg #[.bool b.fifo, .int .i64 b.cap, .slice C b.l.length c]) b) (h1 : W.heap.size ≤ g1) (h2 : W.heap.size ≤ g2) (hV : Below W.heap.size W y) :
    TakePost T L W lo hi n p b (.pointer (some ⟨g1, 0, none⟩)) (.pointer (some ⟨g2, 0, none⟩)) (.int .i64 n) ((((wnine y g1 (.int .i64 p.kind) (.int .i64 p.epoch) (.int .i64 p.seq) (.int .i64 p.letter) (.slice A p.pieces.length k) (.int .i64 p.init) (.int .i64 p.num) (.int .i64 p.count) (.slice B p.path.length l)).setCell ⟨g2, 0, none⟩ (.bool b.fifo)).setCell ⟨g2, 1, none⟩ (.int .i64 b.cap)).setCell ⟨g2, 2, none⟩ (.slice C b.l.length c)) := by
  have hw : ∀ k, S k → also (rng lo hi) W.heap.size y.heap.size k := fun k hk => (hS k hk).1.imp id fun q => ⟨q, (hS k hk).2.1⟩
  have hlt : ∀ k, also (rng lo hi) W.heap.size y.heap.size k → k < y.heap.size := fun k hk => hk.elim (fun q => Nat.lt_of_lt_of_le q.2 hhi) (fun q => q.2)
  refine ⟨g1, g2, y.heap.size, A, k, B, l, C, c, rfl, rfl, rfl, ?_, ?_, ⟨?_, ?_⟩, ⟨?_, ?_⟩, h1, h2, (((nine_below hV h1).setCell h2 _).setCell h2 _).setCell h2 _⟩
  · exact (three_other hne).trans (nine_box hg1)
  · exact blk_set (blk_set (blk_set ((nine_far (Ne.symm hne)).trans hg2) 0 _) 1 _) 2 _
  · exact (hp.keep fun q hq => (three_other (hS q hq).2.2.2).trans (nine_far (hS q hq).2.2.1)).widen hw
  · intro q hq; rw [three_size, nine_size]; exact hlt q hq
  · exact (hu.keep fun q hq => (three_other (hS q hq).2.2.2).trans (nine_far (hS q hq).2.2.1)).widen hw
  · intro q hq; rw [three_size, nine_size]; exact hlt q hq
namespace La
theorem right_less {a : La} {k : Nat} (hk : k < a.l.length) (h : La.right a = true) : La.right (La.less a k) = true := by
  unfold La.right La.roomy at h ⊢
  simp only [Bool.and_eq_true, decide_eq_true_eq] at h ⊢
  obtain ⟨h1, h2, h3, h4, h5⟩ := h
  have hl : a.l = a.l.take k ++ a.l[k] :: a.l.drop (k + 1) := by rw [← List.drop_eq_getElem_cons hk, List.take_append_drop]
  have hc : ∀ q, La.cnt q a.l = La.cnt q (a.l.take k ++ a.l.drop (k + 1)) + (if a.l[k].kind = q then 1 else 0) := by
    intro q
    have e : La.cnt q a.l = La.cnt q (a.l.take k ++ a.l[k] :: a.l.drop (k + 1)) := by rw [← hl]
    rw [e]
    unfold La.cnt
    rw [List.filter_append, List.filter_append, List.length_append, List.length_append, List.filter_cons]
    by_cases hq : a.l[k].kind = q <;> simp [hq] <;> omega
  have hlen : (a.l.take k ++ a.l.drop (k + 1)).length + 1 = a.l.length := by
    rw [List.length_append, List.length_take, List.length_drop]; omega
  have h0 := hc 0
  show ((a.l.take k ++ a.l.drop (k + 1)).all Fr.right = true) ∧ _ ∧ _ ∧ ((La.cnt 0 (a.l.take k ++ a.l.drop (k + 1)) : Nat) : Int) ≤ a.cap ∧ (((a.l.take k ++ a.l.drop (k + 1)).length : Nat) : Int) - ((La.cnt 0 (a.l.take k ++ a.l.drop (k + 1)) : Nat) : Int) ≤ 5
  refine ⟨?_, h2, h3, ?_, ?_⟩
  · rw [List.all_eq_true] at h1 ⊢
    intro f hf
    rcases List.mem_append.1 hf with hf | hf
    · exact h1 f (List.mem_of_mem_take hf)
    · exact h1 f (List.mem_of_mem_drop hf)
  · by_cases hq : a.l[k].kind = 0 <;> simp [hq] at h0 <;> omega
  · by_cases hq : a.l[k].kind = 0 <;> simp [hq] at h0 <;> omega
theorem push_right {a : La} {f : Fr} (h : La.pushE a f = 0) : La.right (La.push a f) = true := by
  unfold La.pushE at h
  unfold La.push
  cases h1 : Fr.right f <;> rw [h1] at h
  · simp at h
  · cases h2 : La.right (La.more a f) <;> rw [h2] at h
    · simp at h
    · simpa using h2
theorem take_right {a : La} {i : Int} (hr : La.right a = true) (h : La.takeE a i = 0) : La.right (La.take a i) = true := by
  unfold La.takeE at h
  unfold La.take
  cases hc : La.can a i <;> rw [hc] at h
  · simp at h
  · obtain ⟨k, rfl, h1, _⟩ := La.can_yes hc
    simpa using right_less h1 hr
end La
end Go.Proofs.Ytkkbblpofhenpaa

/- Messages pushed in order, and taken. -/
namespace Go.Proofs.Ytkkbblpofhenpaa
open Go.RowKit
theorem SliceAt.byte {fr : Bool} {w : World} {lo hi k : Nat} {A : Option Addr} {xs : List Int} {x : Int} (h : SliceAt Rep.byte fr w lo hi A xs) (hx : xs[k]? = some x) :
    ∃ g o, A = some ⟨g, o, none⟩ ∧ g < hi ∧ w.cell? ⟨g, o + k, none⟩ = some (.int .u8 x) ∧ 0 ≤ x ∧ x ≤ 255 := by
  obtain ⟨g, o, cs, rfl, h1, h3, h4⟩ := AtOn.at_ h hx
  obtain ⟨h3', h5, h6⟩ := h3
  subst h3'
  have := (h4 0 _ rfl).1
  exact ⟨g, o, rfl, h1.2, by simpa [Rep.byte] using this, h5, h6⟩
/-- Messages of these numbers. -/
def appsOf (qs : List Nat) : List Fr := qs.map fun (q : Nat) => appF (q : Int)
/-- 1 .. n. -/
def upto (n : Nat) : List Nat := (List.range n).map (· + 1)
theorem upto_succ (n : Nat) : upto (n + 1) = upto n ++ [n + 1] := by unfold upto; rw [List.range_succ, List.map_append]; rfl
theorem upto_len (n : Nat) : (upto n).length = n := by unfold upto; simp
theorem appsOf_len (qs : List Nat) : (appsOf qs).length = qs.length := by unfold appsOf; simp
theorem upto_get {n k : Nat} (h : k < n) : (upto n)[k]? = some (k + 1) := by unfold upto; simp [h]
theorem upto_full {R : Int} (h1 : 1 ≤ R) (h2 : R ≤ 20) : ∀ n : Nat, (n : Int) ≤ R → FullInv (appsOf (upto n)) R n 0 := by
  intro n
  induction n with
  | zero => intro _; exact FullInv.nil h1 h2
  | succ n ih =>
    intro hn
    have h := ih (by omega)
    have := (h.app_yes (fi := false) (k := ((n + 1 : Nat) : Int)) (by omega) (by omega) (by omega)).1
    rw [upto_succ, appsOf, List.map_append]
    exact this
theorem push_upto {fi : Bool} {n : Nat} (hn : n < 20) : La.push ⟨fi, 20, appsOf (upto n)⟩ (appF ((n : Int) + 1)) = ⟨fi, 20, appsOf (upto (n + 1))⟩ ∧ La.pushE ⟨fi, 20, appsOf (upto n)⟩ (appF ((n : Int) + 1)) = 0 := by
  have h := upto_full (R := 20) (by decide) (by decide) n (by omega)
  have := (h.app_yes (fi := fi) (k := (n : Int) + 1) (by omega) (by omega) (by omega)).2
  have e : appsOf (upto (n + 1)) = appsOf (upto n) ++ [appF ((n : Int) + 1)] := by rw [upto_succ]; unfold appsOf; rw [List.map_append]; rfl
  rw [e]
  exact this
/-- Some of 1 .. n, in order; none of them was seen. -/
structure Left (n : Nat) (qs : List Nat) (sn : List Bool) : Prop where
  lt : qs.Pairwise (· < ·)
  le : ∀ q ∈ qs, 1 ≤ q ∧ q ≤ n
  len : sn.length = n + 1
  no : ∀ q ∈ qs, sn[q]? = some false
theorem Left.begin0 (n : Nat) : Left n (upto n) (List.replicate (n + 1) false) := by
  refine ⟨?_, ?_, by simp, ?_⟩
  · unfold upto
    rw [List.pairwise_map]
    exact List.Pairwise.imp (fun h => by omega) List.pairwise_lt_range
  · intro q hq
    unfold upto at hq
    simp at hq
    omega
  · intro q hq
    unfold upto at hq
    simp at hq
    rw [List.getElem?_replicate, if_pos (by omega)]
theorem Left.take {n : Nat} {qs : List Nat} {sn : List Bool} (h : Left n qs sn) {k : Nat} (hk : k < qs.length) : Left n (qs.take k ++ qs.drop (k + 1)) (sn.set qs[k] true) ∧ (1 ≤ qs[k] ∧ qs[k] ≤ n) ∧ sn[qs[k]]? = some false := by
  have hm : qs[k] ∈ qs := List.getElem_mem hk
  have hs : (qs.take k ++ qs.drop (k + 1)).Sublist qs := by
    have := List.Sublist.append (List.Sublist.refl (qs.take k)) (List.drop_sublist_drop_left qs (show k ≤ k + 1 by omega))
    rwa [List.take_append_drop] at this
  have hne : ∀ q ∈ qs.take k ++ qs.drop (k + 1), q ≠ qs[k] := by
    have hl : qs = qs.take k ++ qs[k] :: qs.drop (k + 1) := by rw [← List.drop_eq_getElem_cons hk, List.take_append_drop]
    have hp := h.lt
    rw [hl, List.pairwise_append] at hp
    obtain ⟨_, h2, h3⟩ := hp
    intro q hq
    rcases List.mem_append.1 hq with hq | hq
    · exact Nat.ne_of_lt (h3 q hq _ (List.mem_cons_self ..))
    · exact Nat.ne_of_gt ((List.pairwise_cons.1 h2).1 q hq)
  refine ⟨⟨h.lt.sublist hs, fun q hq => h.le q (hs.subset hq), by rw [List.length_set]; exact h.len, fun q hq => ?_⟩, h.le _ hm, h.no _ hm⟩
  rw [List.getElem?_set_ne (Ne.symm (hne q hq))]
  exact h.no q (hs.subset hq)
theorem take_fifo {cp : Int} {n j : Nat} (hj : j < n) : La.takeF ⟨true, cp, appsOf ((upto n).drop j)⟩ 0 = appF ((j : Int) + 1) ∧ La.take ⟨true, cp, appsOf ((upto n).drop j)⟩ 0 = ⟨true, cp, appsOf ((upto n).drop (j + 1))⟩ ∧ La.takeE ⟨true, cp, appsOf ((upto n).drop j)⟩ 0 = 0 := by
  have hl : (appsOf ((upto n).drop j)).length = n - j := by rw [appsOf_len, List.length_drop, upto_len]
  have hc : La.can ⟨true, cp, appsOf ((upto n).drop j)⟩ 0 = true := by
    unfold La.can
    rw [decide_eq_true (show (0 : Int) < ((appsOf ((upto n).drop j)).length : Int) by rw [hl]; omega)]
    rfl
  have hg : (upto n).drop j = (j + 1) :: (upto n).drop (j + 1) := by
    have hlt : j < (upto n).length := by rw [upto_len]; exact hj
    rw [List.drop_eq_getElem_cons hlt]
    congr 1
    have := upto_get hj
    rw [List.getElem?_eq_getElem hlt] at this
    exact Option.some.inj this
  unfold La.takeF La.take La.takeE
  rw [hc]
  refine ⟨?_, ?_, rfl⟩
  · rw [hg]; simp [appsOf]
  · rw [hg]; simp [La.less, appsOf]
theorem take_free {cp : Int} {qs : List Nat} {k : Nat} (hk : k < qs.length) : La.takeF ⟨false, cp, appsOf qs⟩ (k : Int) = appF ((qs[k] : Nat) : Int) ∧ La.take ⟨false, cp, appsOf qs⟩ (k : Int) = ⟨false, cp, appsOf (qs.take k ++ qs.drop (k + 1))⟩ ∧ La.takeE ⟨false, cp, appsOf qs⟩ (k : Int) = 0 := by
  have hc : La.can ⟨false, cp, appsOf qs⟩ (k : Int) = true := by
    unfold La.can
    rw [decide_eq_true (show (0 : Int) ≤ (k : Int) by omega), decide_eq_true (show (k : Int) < ((appsOf qs).length : Int) by rw [appsOf_len]; omega)]
    rfl
  unfold La.takeF La.take La.takeE
  rw [hc]
  refine ⟨?_, ?_, rfl⟩
  · simp [appsOf, hk]
  · simp [La.less, appsOf, List.map_take, List.map_drop]
theorem msgs_apps (fi : Bool) (cp : Int) (qs : List Nat) : La.msgs ⟨fi, cp, appsOf qs⟩ = qs.map fun (q : Nat) => ((q : Int), (0 : Int)) := by
  unfold La.msgs appsOf
  rw [List.filter_eq_self.2 (by intro f hf; simp at hf; obtain ⟨q, _, rfl⟩ := hf; rfl), List.map_map]
  rfl
/-- A lane whose lists lie from lo on, but not in block g. -/
def LaO (w : World) (lo g : Nat) (v : Value) (a : La) : Prop := LaOn w (outS w lo g) v a
section
variable {w w' : World} {lo g : Nat} {v : Value} {a : La}
theorem LaO.move (h : LaO w lo g v a) (hk : ∀ k, lo ≤ k → k < w.heap.size → k ≠ g → w'.heap[k]? = w.heap[k]?) (hz : w.heap.size ≤ w'.heap.size) : LaO w' lo g v a := (LaOn.keep h fun k q => hk k q.1 q.2.1 q.2.2).widen fun _ q => ⟨q.1, Nat.lt_of_lt_of_le q.2.1 hz, q.2.2⟩
theorem LaO.next (h : LaO w lo g v a) (hb : Below w.heap.size w w') : LaO w' lo g v a := h.move (fun k _ q _ => hb.block k q) hb.size
theorem LaO.is_ (h : LaO w lo g v a) : LaIs false w 0 w.heap.size v a := LaOn.is_ h fun _ q => q.2.1
theorem LaIs.out_of (h : LaIs false w lo w.heap.size v a) (hb : Below w.heap.size w w') : LaO w' lo w.heap.size v a := h.out_new hb
theorem ctakeO (p : Fr) (b : La) (n i : Int) (hlo : lo ≤ w.heap.size) (hg : g < w.heap.size) (h : LaO w lo g v a) (hn : a.l.length ≤ 1000000) (hf : La.takeF a i = p) (hp : La.take a i = b) (he : La.takeE a i = n) : Calls Try.prog 22 #[v, .int .i64 i] w
    fun y w' => (∃ A k B l C c, y = .returned (.tuple #[.agg #[.int .i64 p.kind, .int .i64 p.epoch, .int .i64 p.seq, .int .i64 p.letter, .slice A p.pieces.length k, .int .i64 p.init, .int .i64 p.num, .int .i64 p.count, .slice B p.path.length l], .agg #[.bool b.fifo, .int .i64 b.cap, .slice C b.l.length c], .int .i64 n]) ∧ FrIs false w' 0 w'.heap.size (.agg #[.int .i64 p.kind, .int .i64 p.epoch, .int .i64 p.seq, .int .i64 p.letter, .slice A p.pieces.length k, .int .i64 p.init, .int .i64 p.num, .int .i64 p.count, .slice B p.path.length l]) p ∧ LaO w' lo g (.agg #[.bool b.fifo, .int .i64 b.cap, .slice C b.l.length c]) b) ∧ Below w.heap.size w w' := by
  refine (ctake (outS w lo g) p b n i (fun _ q => q.2.1) h hn hf hp he).mono ?_
  rintro y w' ⟨⟨A, k, B, l, C, c, rfl, hv, hu⟩, hb⟩
  exact ⟨⟨A, k, B, l, C, c, rfl, hv.is_ (fun _ q => Nat.lt_of_lt_of_le q.2.1 hb.size), hu.on.widen (also_out hb hlo hg)⟩, hb⟩
end
/-- The cells of a row of truths. -/
def cellsB (sn : List Bool) : Array Value := (sn.map Value.bool).toArray
theorem Try.infoBool : (Try.prog.info? 4).map (fun i => (i.zero, i.size, i.bytes)) = some (some (.bool false), 1, 1) := by kernel_rfl
theorem made_bools (n : Nat) : madeCells (Value.bool false).cells (n * 1) = cellsB (List.replicate n false) := by
  apply Array.ext'
  apply List.ext_getElem?
  intro i
  unfold cellsB
  rw [Nat.mul_one]
  simp only [madeCells, Array.toList_map, Array.toList_range, List.getElem?_map, List.map_replicate]
  by_cases h : i < n
  · rw [List.getElem?_range h, List.getElem?_replicate, if_pos h]
    have e : i % (Value.bool false).cells.size = 0 := by rw [show (Value.bool false).cells.size = 1 from rfl]; exact Nat.mod_one _
    simp only [Option.map_some]
    rw [e]; rfl
  · rw [List.getElem?_eq_none (by simpa using h), List.getElem?_eq_none (by simpa using h)]; rfl
theorem cellsB_set (sn : List Bool) (q : Nat) (b : Bool) : (cellsB sn).setIfInBounds q (.bool b) = cellsB (sn.set q b) := by
  apply Array.ext'
  simp [cellsB, List.map_set]
theorem cellsB_cell {w : World} {g q : Nat} {sn : List Bool} {T : TypeId} {b : Bool} (h : Box w g (cellsB sn) T) (hq : sn[q]? = some b) : w.cell? ⟨g, q, none⟩ = some (.bool b) := by
  rw [blk_cell h]; simp [cellsB, hq]
end Go.Proofs.Ytkkbblpofhenpaa
