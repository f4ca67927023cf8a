/- hue.Turn, hue.Done, and the document's Done. -/
import Derived.Test.YtmbilaepeekglaaHuG
namespace Go.Proofs.Ytmbilaepeekglaa
open Go.RowKit Go.Maps

section
variable {w : World} {R : Nat} {T : TypeId} {x0 x1 x2 x3 x4 x5 x6 : Value}
theorem seven_cells (h : Box w R #[x0, x1, x2, x3, x4, x5, x6] T) : w.cell? ⟨R, 0, none⟩ = some x0 ∧ w.cell? ⟨R, 1, none⟩ = some x1 ∧ w.cell? ⟨R, 2, none⟩ = some x2 ∧ w.cell? ⟨R, 3, none⟩ = some x3 ∧ w.cell? ⟨R, 4, none⟩ = some x4 ∧ w.cell? ⟨R, 5, none⟩ = some x5 ∧ w.cell? ⟨R, 6, none⟩ = some x6 :=
  ⟨blk_cell h 0, blk_cell h 1, blk_cell h 2, blk_cell h 3, blk_cell h 4, blk_cell h 5, blk_cell h 6⟩
theorem seven_free (h : Box w R #[x0, x1, x2, x3, x4, x5, x6] T) : w.frozen? ⟨R, 0, none⟩ = false ∧ w.frozen? ⟨R, 1, none⟩ = false ∧ w.frozen? ⟨R, 2, none⟩ = false ∧ w.frozen? ⟨R, 3, none⟩ = false ∧ w.frozen? ⟨R, 4, none⟩ = false ∧ w.frozen? ⟨R, 5, none⟩ = false ∧ w.frozen? ⟨R, 6, none⟩ = false := by
  have k : ∀ i, w.frozen? ⟨R, i, none⟩ = false := fun i => by simp [World.frozen?, show w.heap[R]? = _ from h]
  exact ⟨k 0, k 1, k 2, k 3, k 4, k 5, k 6⟩
/-- A world in which seven cells of block b were written. -/
def wseven (w : World) (b : Nat) (a0 a1 a2 a3 a4 a5 a6 : Value) : World := ((((((w.setCell ⟨b, 0, none⟩ a0).setCell ⟨b, 1, none⟩ a1).setCell ⟨b, 2, none⟩ a2).setCell ⟨b, 3, none⟩ a3).setCell ⟨b, 4, none⟩ a4).setCell ⟨b, 5, none⟩ a5).setCell ⟨b, 6, none⟩ a6
variable {a0 a1 a2 a3 a4 a5 a6 : Value} {b : Nat}
theorem seven_box (h : Box w b #[x0, x1, x2, x3, x4, x5, x6] T) : Box (wseven w b a0 a1 a2 a3 a4 a5 a6) b #[a0, a1, a2, a3, a4, a5, a6] T := by
  have h0 : Box (w.setCell ⟨b, 0, none⟩ a0) b #[a0, x1, x2, x3, x4, x5, x6] T := blk_set h 0 a0
  have h1 : Box ((w.setCell ⟨b, 0, none⟩ a0).setCell ⟨b, 1, none⟩ a1) b #[a0, a1, x2, x3, x4, x5, x6] T := blk_set h0 1 a1
  have h2 : Box (((w.setCell ⟨b, 0, none⟩ a0).setCell ⟨b, 1, none⟩ a1).setCell ⟨b, 2, none⟩ a2) b #[a0, a1, a2, x3, x4, x5, x6] T := blk_set h1 2 a2
  have h3 : Box ((((w.setCell ⟨b, 0, none⟩ a0).setCell ⟨b, 1, none⟩ a1).setCell ⟨b, 2, none⟩ a2).setCell ⟨b, 3, none⟩ a3) b #[a0, a1, a2, a3, x4, x5, x6] T := blk_set h2 3 a3
  have h4 : Box (((((w.setCell ⟨b, 0, none⟩ a0).setCell ⟨b, 1, none⟩ a1).setCell ⟨b, 2, none⟩ a2).setCell ⟨b, 3, none⟩ a3).setCell ⟨b, 4, none⟩ a4) b #[a0, a1, a2, a3, a4, x5, x6] T := blk_set h3 4 a4
  have h5 : Box ((((((w.setCell ⟨b, 0, none⟩ a0).setCell ⟨b, 1, none⟩ a1).setCell ⟨b, 2, none⟩ a2).setCell ⟨b, 3, none⟩ a3).setCell ⟨b, 4, none⟩ a4).setCell ⟨b, 5, none⟩ a5) b #[a0, a1, a2, a3, a4, a5, x6] T := blk_set h4 5 a5
  exact blk_set h5 6 a6
theorem seven_far {k : Nat} (hk : k ≠ b) : (wseven w b a0 a1 a2 a3 a4 a5 a6).heap[k]? = w.heap[k]? := by
  have o : ∀ (w0 : World) (i : Nat) (u : Value), (w0.setCell ⟨b, i, none⟩ u).heap[k]? = w0.heap[k]? := fun w0 i u => heap_setCell_other _ _ _ _ hk
  unfold wseven; rw [o, o, o, o, o, o, o]
theorem seven_size : (wseven w b a0 a1 a2 a3 a4 a5 a6).heap.size = w.heap.size := by simp [wseven, World.setCell]
theorem seven_below {B : Nat} {w0 : World} (h : Below B w0 w) (hB : B ≤ b) : Below B w0 (wseven w b a0 a1 a2 a3 a4 a5 a6) := ((((((h.setCell hB _).setCell hB _).setCell hB _).setCell hB _).setCell hB _).setCell hB _).setCell hB _
theorem six_part {fr : Bool} {lo hi : Nat} {v : Value} {p : Pc.Piece} (h : PieceIs fr w lo hi v p) (hb : b < lo ∨ hi ≤ b) : PieceIs fr (wseven w b a0 a1 a2 a3 a4 a5 a6) lo hi v p := h.keep fun k h1 h2 => seven_far (by omega)
end

set_option maxRecDepth 100000 in
set_option maxHeartbeats 2000000 in
theorem done_any (e n s t x : Int) (a b c : Value) (w : World) : Calls Try.prog 14 #[.agg #[.int .i64 e, .int .i64 n, .int .i64 s, .int .i64 t, a, b, c], .int .i64 x] w
    fun y w' => y = .returned (.bool (decide (x ≤ e))) ∧ Below w.heap.size w w' := by
  by_cases h : x ≤ e
  · rw [decide_eq_true h]
    go_enter Try.func14, Try.ntmps14
    go_wp2_with fail
    go_ret
    exact ⟨by simp, (Below.refl _ _).alloc (Nat.le_refl _) _⟩
  · rw [decide_eq_false h]
    go_enter Try.func14, Try.ntmps14
    go_wp2_with fail
    go_ret
    exact ⟨by simp, (Below.refl _ _).alloc (Nat.le_refl _) _⟩
set_option maxRecDepth 100000 in
set_option maxHeartbeats 2000000 in
theorem rdone_any (e n s t x : Int) (a b c : Value) (w : World) : Calls Try.prog 15 #[.agg #[.int .i64 e, .int .i64 n, .int .i64 s, .int .i64 t, a, b, c], .int .i64 x] w
    fun y w' => y = .returned (.bool (decide (x ≤ e))) ∧ Below w.heap.size w w' := by
  by_cases h : x ≤ e
  · rw [decide_eq_true h]
    go_enter Try.func15, Try.ntmps15
    go_wp2_with fail
    go_ret
    exact ⟨by simp, (Below.refl _ _).alloc (Nat.le_refl _) _⟩
  · rw [decide_eq_false h]
    go_enter Try.func15, Try.ntmps15
    go_wp2_with fail
    go_ret
    exact ⟨by simp, (Below.refl _ _).alloc (Nat.le_refl _) _⟩

set_option maxRecDepth 100000 in
set_option maxHeartbeats 4000000 in
theorem turn_no (e n s t x : Int) (A B C : Option Addr) (k l m k' l' m' : Nat) (hv : Value) (h : Hu.Host) (w : World) (hh : HostIs false w 0 w.heap.size hv h) (hx : x ≤ e) :
    Calls Try.prog 9 #[.agg #[.int .i64 e, .int .i64 n, .int .i64 s, .int .i64 t, .slice A k k', .slice B l l', .slice C m m'], hv, .int .i64 x] w
    fun y w' => y = .returned (.tuple #[.agg #[.int .i64 e, .int .i64 n, .int .i64 s, .int .i64 t, .slice A k k', .slice B l l', .slice C m m'], .bool false]) ∧ Below w.heap.size w w' := by
  obtain ⟨a, b, rfl, ⟨A1, c1, rfl, l1, m1, _⟩, ⟨A2, c2, rfl, l2, m2, _⟩⟩ := hh
  go_enter Try.func9, Try.ntmps9
  go_wp2_with fail
  refine bodyPost_ret (v := .tuple #[.agg #[.int .i64 e, .int .i64 n, .int .i64 s, .int .i64 t, .slice A k k', .slice B l l', .slice C m m'], .bool false]) (by simp [results, Try.results9, go_sem]) rfl ⟨rfl, ((below_2 _ _ _)).alloc (by simp; omega) _⟩

set_option maxRecDepth 100000 in
set_option maxHeartbeats 4000000 in
theorem turn_yes (e n s t x : Int) (A B C : Option Addr) (k l m k' l' m' : Nat) (hv : Value) (h : Hu.Host) (w : World) (hh : HostIs false w 0 w.heap.size hv h) (hs : h.sized) (hx : e < x) :
    Calls Try.prog 9 #[.agg #[.int .i64 e, .int .i64 n, .int .i64 s, .int .i64 t, .slice A k k', .slice B l l', .slice C m m'], hv, .int .i64 x] w
    fun y w' => (∃ a b c, y = .returned (.tuple #[.agg #[.int .i64 x, .int .i64 h.node, .int .i64 h.state, .int .i64 h.steps, a, b, c], .bool true]) ∧ PieceIs true w' w.heap.size w'.heap.size (.agg #[.int .i64 h.node, .int .i64 h.state, .int .i64 h.steps, a, b, c]) h.told) ∧ Below w.heap.size w w' := by
  have hP := fun w1 (hb : Below w.heap.size w w1) => hostPiece_any hv h w1 (hh.next hb) hs
  have HP := Lib.hid hP; clear hP hs
  obtain ⟨a, b, rfl, ⟨A1, c1, rfl, l1, m1, _⟩, ⟨A2, c2, rfl, l2, m2, _⟩⟩ := hh
  go_enter Try.func9, Try.ntmps9
  go_wp2_with fail
  refine name_call fun W0 hW => ?_
  have hb0 : Below w.heap.size w W0 := hW ▸ ((below_2 _ _ _)).alloc (by simp; omega) _
  have hx6 : Box W0 (w.heap.size + 1 + 1) #[.int .i64 0, .int .i64 0, .int .i64 0, .int .i64 0, .slice none 0 0, .slice none 0 0, .slice none 0 0] 32 := hW ▸ Box.new' _ _ (by simp)
  have hsz : W0.heap.size = w.heap.size + 3 := hW ▸ (by simp)
  clear hW
  refine (HP.out W0 hb0).mono ?_
  rintro e1 w1 ⟨⟨v1, rfl, a, b, c, rfl, ha, hb, hc⟩, hb1⟩
  obtain ⟨A3, c3, rfl, q3⟩ := id ha
  obtain ⟨A4, c4, rfl, q4⟩ := id hb
  obtain ⟨A5, c5, rfl, q5⟩ := id hc
  replace hx6 := hx6.next hb1
  obtain ⟨f0, f1, f2, f3, f4, f5, f6⟩ := seven_free hx6
  obtain ⟨k0, k1, k2, k3, k4, k5, k6⟩ := seven_cells hx6
  have HX := Lib.hid hx6; clear hx6
  have HA := Lib.hid ha; have HB := Lib.hid hb; have HC := Lib.hid hc; clear ha hb hc q3 q4 q5
  go_wp2_with fail
  have r := seven_box (a0 := .int .i64 x) (a1 := .int .i64 h.told.node) (a2 := .int .i64 h.told.state) (a3 := .int .i64 h.told.steps) (a4 := .slice A3 h.told.sent.length c3) (a5 := .slice A4 h.told.inn.length c4) (a6 := .slice A5 h.told.out.length c5) HX.out
  have hfar := fun (q : Nat) (hq : q ≠ w.heap.size + 1 + 1) => seven_far (w := w1) (b := w.heap.size + 1 + 1) (a0 := .int .i64 x) (a1 := .int .i64 h.told.node) (a2 := .int .i64 h.told.state) (a3 := .int .i64 h.told.steps) (a4 := .slice A3 h.told.sent.length c3) (a5 := .slice A4 h.told.inn.length c4) (a6 := .slice A5 h.told.out.length c5) hq
  have hz : (wseven w1 (w.heap.size + 1 + 1) (.int .i64 x) (.int .i64 h.told.node) (.int .i64 h.told.state) (.int .i64 h.told.steps) (.slice A3 h.told.sent.length c3) (.slice A4 h.told.inn.length c4) (.slice A5 h.told.out.length c5)).heap.size = w1.heap.size := seven_size
  have hbl := seven_below (b := w.heap.size + 1 + 1) (a0 := .int .i64 x) (a1 := .int .i64 h.told.node) (a2 := .int .i64 h.told.state) (a3 := .int .i64 h.told.steps) (a4 := .slice A3 h.told.sent.length c3) (a5 := .slice A4 h.told.inn.length c4) (a6 := .slice A5 h.told.out.length c5) (hb0.trans (hb1.mono hb0.size)) (by omega)
  unfold wseven at r
  obtain ⟨g0, g1, g2, g3, g4, g5, g6⟩ := seven_cells r
  refine bodyPost_ret (v := .tuple #[.agg #[.int .i64 x, .int .i64 h.told.node, .int .i64 h.told.state, .int .i64 h.told.steps, .slice A3 h.told.sent.length c3, .slice A4 h.told.inn.length c4, .slice A5 h.told.out.length c5], .bool true]) (by simp [results, Try.results9, go_sem, g0, g1, g2, g3, g4, g5, g6]) rfl ⟨⟨_, _, _, rfl, _, _, _, rfl, ?_, ?_, ?_⟩, hbl⟩
  · exact (HA.out.keep fun q h1 h2 => hfar q (by omega)).widen (by omega) (Nat.le_of_eq hz.symm)
  · exact (HB.out.keep fun q h1 h2 => hfar q (by omega)).widen (by omega) (Nat.le_of_eq hz.symm)
  · exact (HC.out.keep fun q h1 h2 => hfar q (by omega)).widen (by omega) (Nat.le_of_eq hz.symm)
end Go.Proofs.Ytmbilaepeekglaa
