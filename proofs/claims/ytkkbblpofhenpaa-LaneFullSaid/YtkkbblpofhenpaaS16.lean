/- Lemmas, walks and contracts that the statements of this seat are proved by. -/
import Derived.Test.YtkkbblpofhenpaaS15
import Derived.Test.YtkkbblpofhenpaaS9
/- Frames written into a lane's own row. -/
namespace Go.Proofs.Ytkkbblpofhenpaa
open Go.RowKit
theorem La.cut_cut (a : La) : La.cut (La.cut a) = La.cut a := by
  unfold La.cut
  simp only [La.mk.injEq, true_and]
  rw [← List.map_take, List.take_take, Nat.min_self, List.map_map]
  congr 1
  funext f
  exact Fr.cut_cut f
/-- A row of n frames that may be written, in block ob. -/
def Row9 (w : World) (ob : Option Nat) (A : Option Addr) (n : Nat) : Prop := 0 < n → ∃ g cur, A = some ⟨g, 0, none⟩ ∧ ob = some g ∧ w.heap[g]? = some (.cells cur 37 (0, 0)) ∧ n * 9 ≤ cur.size
theorem Row9.next {w w' : World} {ob : Option Nat} {A : Option Addr} {n : Nat} (h : Row9 w ob A n) (hb : Below w.heap.size w w') : Row9 w' ob A n := fun h0 => by
  obtain ⟨g, cur, h1, h2, h3, h4⟩ := h h0
  exact ⟨g, cur, h1, h2, (hb.block g (lt_of_block h3)).trans h3, h4⟩
theorem Row9.grown {w w' : World} {ob oc : Option Nat} {A : Option Addr} {n : Nat} (h : Row9 w ob A n) (hb : w.grownBy w' oc) (hne : ∀ g, ob = some g → oc ≠ some g) : Row9 w' ob A n := fun h0 => by
  obtain ⟨g, cur, h1, h2, h3, h4⟩ := h h0
  exact ⟨g, cur, h1, h2, (hb.block g (lt_of_block h3) (fun e => hne g h2 e.symm)).trans h3, h4⟩
theorem LaNew.row {w : World} {S : Nat → Prop} {B c : Nat} {A : Option Addr} {b : La} (h : LaNew w S B (.agg #[.bool b.fifo, .int .i64 b.cap, .slice A b.l.length c]) b) : ∃ ob, (∀ g, ob = some g → B ≤ g ∧ g < w.heap.size) ∧ Row9 w ob A b.l.length := by
  obtain ⟨A2, c2, he, _, h2⟩ := h
  have hA : A2 = A := by
    injection he with he
    simp at he
    exact he.1.symm
  subst hA
  by_cases h0 : 0 < b.l.length
  · obtain ⟨g, cur, k1, k2, k3, k4⟩ := h2 h0
    exact ⟨some g, fun q e => by cases e; exact ⟨k2, lt_of_block k3⟩, fun _ => ⟨g, cur, k1, rfl, k3, k4⟩⟩
  · exact ⟨none, fun q e => (by cases e), fun h => absurd h h0⟩
theorem cell_in {w : World} {g i : Nat} {cur : Array Value} {T : TypeId} (h : w.heap[g]? = some (.cells cur T (0, 0))) (hi : i < cur.size) : ∃ v, w.cell? ⟨g, i, none⟩ = some v := ⟨cur[i], by rw [blk_cell h, Array.getElem?_eq_getElem hi]⟩
theorem row9_block {w : World} {g o : Nat} {cur : Array Value} {T : TypeId} {a0 a1 a2 a3 a4 a5 a6 a7 a8 : Value} (h : w.heap[g]? = some (.cells cur T (0, 0))) :
    ∃ cur', (((((((((w.setCell ⟨g, o, none⟩ a0).setCell ⟨g, o + 1, none⟩ a1).setCell ⟨g, o + 2, none⟩ a2).setCell ⟨g, o + 3, none⟩ a3).setCell ⟨g, o + 4, none⟩ a4).setCell ⟨g, o + 5, none⟩ a5).setCell ⟨g, o + 6, none⟩ a6).setCell ⟨g, o + 7, none⟩ a7).setCell ⟨g, o + 8, none⟩ a8).heap[g]? = some (.cells cur' T (0, 0)) ∧ cur'.size = cur.size := by
  have h0 := blk_set h o a0
  have h1 := blk_set h0 (o + 1) a1
  have h2 := blk_set h1 (o + 2) a2
  have h3 := blk_set h2 (o + 3) a3
  have h4 := blk_set h3 (o + 4) a4
  have h5 := blk_set h4 (o + 5) a5
  have h6 := blk_set h5 (o + 6) a6
  have h7 := blk_set h6 (o + 7) a7
  have h8 := blk_set h7 (o + 8) a8
  exact ⟨_, h8, by simp only [Array.size_setIfInBounds]⟩
theorem Row9.step {W w : World} {g o n : Nat} {cur : Array Value} {a0 a1 a2 a3 a4 a5 a6 a7 a8 : Value} (hg : W.grownBy w (some g)) (h : w.heap[g]? = some (.cells cur 37 (0, 0))) (hn : n * 9 ≤ cur.size) :
    W.grownBy (((((((((w.setCell ⟨g, o, none⟩ a0).setCell ⟨g, o + 1, none⟩ a1).setCell ⟨g, o + 2, none⟩ a2).setCell ⟨g, o + 3, none⟩ a3).setCell ⟨g, o + 4, none⟩ a4).setCell ⟨g, o + 5, none⟩ a5).setCell ⟨g, o + 6, none⟩ a6).setCell ⟨g, o + 7, none⟩ a7).setCell ⟨g, o + 8, none⟩ a8) (some g) ∧
    Row9 (((((((((w.setCell ⟨g, o, none⟩ a0).setCell ⟨g, o + 1, none⟩ a1).setCell ⟨g, o + 2, none⟩ a2).setCell ⟨g, o + 3, none⟩ a3).setCell ⟨g, o + 4, none⟩ a4).setCell ⟨g, o + 5, none⟩ a5).setCell ⟨g, o + 6, none⟩ a6).setCell ⟨g, o + 7, none⟩ a7).setCell ⟨g, o + 8, none⟩ a8) (some g) (some ⟨g, 0, none⟩) n := by
  have hb := row9_below (o := o) (a0 := a0) (a1 := a1) (a2 := a2) (a3 := a3) (a4 := a4) (a5 := a5) (a6 := a6) (a7 := a7) (a8 := a8) (Below.refl g w) (Nat.le_refl g)
  refine ⟨⟨hb.os.trans hg.os, hb.tape.trans hg.tape, hb.output.trans hg.output, Nat.le_trans hg.size hb.size, fun k hk hne => ?_⟩, fun _ => ?_⟩
  · rw [row9_far (fun e => hne (congrArg some e))]; exact hg.block k hk hne
  · obtain ⟨cur', h1, h2⟩ := row9_block (o := o) (a0 := a0) (a1 := a1) (a2 := a2) (a3 := a3) (a4 := a4) (a5 := a5) (a6 := a6) (a7 := a7) (a8 := a8) h
    exact ⟨g, cur', rfl, rfl, h1, by rw [h2]; exact hn⟩
theorem grown_trans_below {W w : World} {B : Nat} {ob : Option Nat} (h : W.grownBy w ob) (hB : ∀ g, ob = some g → B ≤ g) (hW : B ≤ W.heap.size) : Below B W w :=
  ⟨h.os, h.tape, h.output, h.size, fun k hk => h.block k (Nat.lt_of_lt_of_le hk hW) (fun e => by have := hB k e.symm; omega)⟩
end Go.Proofs.Ytkkbblpofhenpaa

/- Lanes of messages and of other frames: what goes in. -/
namespace Go.Proofs.Ytkkbblpofhenpaa
open Go.RowKit
theorem SliceAt.bool {fr : Bool} {w : World} {lo hi k : Nat} {A : Option Addr} {xs : List Bool} {x : Bool} (h : SliceAt Rep.bool fr w lo hi A xs) (hx : xs[k]? = some x) :
    ∃ g o, A = some ⟨g, o, none⟩ ∧ lo ≤ g ∧ g < hi ∧ w.cell? ⟨g, o + k, none⟩ = some (.bool x) := by
  obtain ⟨g, o, cs, rfl, h1, h3, h4⟩ := AtOn.at_ h hx
  have h3' : cs = [.bool x] := h3
  subst h3'
  have := (h4 0 _ rfl).1
  exact ⟨g, o, rfl, h1.1, h1.2, by simpa [Rep.bool] using this⟩
theorem appF_right {k : Int} (h1 : 1 ≤ k) (h2 : k ≤ 500) : Fr.right (appF k) = true := by
  simp [Fr.right, Fr.only, Fr.rule, Fr.app, Pc.within, appF, h1, h2]
def yesF : Fr := ⟨3, 1, 0, 0, [], 0, 0, 0, []⟩
theorem yesF_right : Fr.right yesF = true := by decide
theorem yesF_on (w : World) (S : Nat → Prop) : FrOn false w S (.agg #[.int .i64 3, .int .i64 1, .int .i64 0, .int .i64 0, .slice none 0 0, .int .i64 0, .int .i64 0, .int .i64 0, .slice none 0 0]) yesF := ⟨none, none, 0, 0, rfl, SliceOn.none_, SliceOn.none_⟩
/-- p messages and o others, as many as may be. -/
structure FullInv (l : List Fr) (R : Int) (p o : Nat) : Prop where
  r1 : 1 ≤ R
  r2 : R ≤ 20
  all : l.all Fr.right = true
  c0 : La.cnt 0 l = p
  c3 : La.cnt 3 l = o
  len : l.length = p + o
  pR : (p : Int) ≤ R
  o5 : o ≤ 5
section
variable {l : List Fr} {R : Int} {p o : Nat} {fi : Bool}
theorem FullInv.nil (h1 : 1 ≤ R) (h2 : R ≤ 20) : FullInv [] R 0 0 := ⟨h1, h2, rfl, rfl, rfl, rfl, by omega, by omega⟩
theorem FullInv.right (h : FullInv l R p o) : La.right ⟨fi, R, l⟩ = true := by
  have := h.r1; have := h.r2; have := h.len; have := h.pR; have := h.o5
  unfold La.right La.roomy
  rw [h.all, h.c0, h.len, decide_eq_true h.r1, decide_eq_true h.r2, decide_eq_true h.pR, decide_eq_true (by omega)]; rfl
theorem FullInv.app_yes (h : FullInv l R p o) {k : Int} (h1 : 1 ≤ k) (h2 : k ≤ 500) (hp : (p : Int) < R) : FullInv (l ++ [appF k]) R (p + 1) o ∧ La.push ⟨fi, R, l⟩ (appF k) = ⟨fi, R, l ++ [appF k]⟩ ∧ La.pushE ⟨fi, R, l⟩ (appF k) = 0 := by
  have hi : FullInv (l ++ [appF k]) R (p + 1) o := ⟨h.r1, h.r2, by rw [List.all_append, h.all]; simp [appF_right h1 h2], by rw [La.cnt_snoc, h.c0]; rfl, by rw [La.cnt_snoc, h.c3]; rfl, by rw [List.length_append, h.len]; simp; omega, by omega, h.o5⟩
  exact ⟨hi, La.push_ok (appF_right h1 h2) hi.right⟩
theorem FullInv.app_no (h : FullInv l R p o) {k : Int} (h1 : 1 ≤ k) (h2 : k ≤ 500) (hp : ¬ (p : Int) < R) : La.push ⟨fi, R, l⟩ (appF k) = ⟨false, 0, []⟩ ∧ La.pushE ⟨fi, R, l⟩ (appF k) = 6 := by
  refine La.push_full (appF_right h1 h2) ?_
  have hc : La.cnt 0 (l ++ [appF k]) = p + 1 := by rw [La.cnt_snoc, h.c0]; rfl
  unfold La.right La.roomy La.more
  rw [hc, decide_eq_false (show ¬ (((p + 1 : Nat) : Int) ≤ R) by omega)]; simp
theorem FullInv.yes_yes (h : FullInv l R p o) (hp : o < 5) : FullInv (l ++ [yesF]) R p (o + 1) ∧ La.push ⟨fi, R, l⟩ yesF = ⟨fi, R, l ++ [yesF]⟩ ∧ La.pushE ⟨fi, R, l⟩ yesF = 0 := by
  have hi : FullInv (l ++ [yesF]) R p (o + 1) := ⟨h.r1, h.r2, by rw [List.all_append, h.all]; simp [yesF_right], by rw [La.cnt_snoc, h.c0]; rfl, by rw [La.cnt_snoc, h.c3]; rfl, by rw [List.length_append, h.len]; simp; omega, h.pR, by omega⟩
  exact ⟨hi, La.push_ok yesF_right hi.right⟩
theorem FullInv.yes_no (h : FullInv l R p o) (hp : ¬ o < 5) : La.push ⟨fi, R, l⟩ yesF = ⟨false, 0, []⟩ ∧ La.pushE ⟨fi, R, l⟩ yesF = 6 := by
  refine La.push_full yesF_right ?_
  have hc : La.cnt 0 (l ++ [yesF]) = p := by rw [La.cnt_snoc, h.c0]; rfl
  have := h.len
  unfold La.right La.roomy La.more
  rw [hc, decide_eq_false (show ¬ ((((l ++ [yesF]).length : Nat) : Int) - (p : Int) ≤ 5) by rw [List.length_append, h.len]; simp; omega)]; simp
theorem FullInv.fits1 (h : FullInv l R p o) {q : Bool} (hq : decide ((p : Int) < R) = q) : La.fits ⟨fi, R, l⟩ 1 = q := by
  unfold La.fits
  rw [h.c0, ← hq]
  by_cases hp : (p : Int) < R
  · rw [decide_eq_true hp, decide_eq_true (show (1 : Int) ≤ R - (p : Int) by omega)]; simp
  · rw [decide_eq_false hp, decide_eq_false (show ¬ ((1 : Int) ≤ R - (p : Int)) by omega)]; simp
end
end Go.Proofs.Ytkkbblpofhenpaa
