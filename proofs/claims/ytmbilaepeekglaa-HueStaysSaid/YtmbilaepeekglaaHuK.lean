/- The document's Turn; cameolaw11.Same. -/
import Derived.Test.YtmbilaepeekglaaHuJ
namespace Go.Proofs.Ytmbilaepeekglaa
open Go.RowKit Go.Maps

set_option maxRecDepth 100000 in
set_option maxHeartbeats 4000000 in
theorem rturn_no (e n s t x : Int) (A B C : Option Addr) (k l m k' l' m' : Nat) (hv : Value) (h : Hu.Host) (w : World) (hh : HostIs false w 0 w.heap.size hv h) (hx : x ≤ e) :
    Calls Try.prog 10 #[.agg #[.int .i64 e, .int .i64 n, .int .i64 s, .int .i64 t, .slice A k k', .slice B l l', .slice C m m'], hv, .int .i64 x] w
    fun y w' => y = .returned (.tuple #[.agg #[.int .i64 e, .int .i64 n, .int .i64 s, .int .i64 t, .slice A k k', .slice B l l', .slice C m m'], .bool false]) ∧ Below w.heap.size w w' := by
  obtain ⟨a, b, rfl, ⟨A1, c1, rfl, l1, m1, _⟩, ⟨A2, c2, rfl, l2, m2, _⟩⟩ := hh
  go_enter Try.func10, Try.ntmps10
  go_wp2_with fail
  refine bodyPost_ret (v := .tuple #[.agg #[.int .i64 e, .int .i64 n, .int .i64 s, .int .i64 t, .slice A k k', .slice B l l', .slice C m m'], .bool false]) (by simp [results, Try.results10, go_sem]) rfl ⟨rfl, ((below_2 _ _ _)).alloc (by simp; omega) _⟩

set_option maxRecDepth 100000 in
set_option maxHeartbeats 4000000 in
theorem rturn_yes (e n s t x : Int) (A B C : Option Addr) (k l m k' l' m' : Nat) (hv : Value) (h : Hu.Host) (w : World) (hh : HostIs false w 0 w.heap.size hv h) (hs : h.sized) (hx : e < x) :
    Calls Try.prog 10 #[.agg #[.int .i64 e, .int .i64 n, .int .i64 s, .int .i64 t, .slice A k k', .slice B l l', .slice C m m'], hv, .int .i64 x] w
    fun y w' => (∃ a b c, y = .returned (.tuple #[.agg #[.int .i64 x, .int .i64 h.node, .int .i64 h.state, .int .i64 h.steps, a, b, c], .bool true]) ∧ PieceIs true w' w.heap.size w'.heap.size (.agg #[.int .i64 h.node, .int .i64 h.state, .int .i64 h.steps, a, b, c]) h.told) ∧ Below w.heap.size w w' := by
  have hP := fun w1 (hb : Below w.heap.size w w1) => rpiece_any hv h w1 (hh.next hb) hs
  have HP := Lib.hid hP; clear hP hs
  obtain ⟨a, b, rfl, ⟨A1, c1, rfl, l1, m1, _⟩, ⟨A2, c2, rfl, l2, m2, _⟩⟩ := hh
  go_enter Try.func10, Try.ntmps10
  go_wp2_with fail
  refine name_call fun W0 hW => ?_
  have hb0 : Below w.heap.size w W0 := hW ▸ ((below_2 _ _ _)).alloc (by simp; omega) _
  have hx6 : Box W0 (w.heap.size + 1 + 1) #[.int .i64 0, .int .i64 0, .int .i64 0, .int .i64 0, .slice none 0 0, .slice none 0 0, .slice none 0 0] 37 := hW ▸ Box.new' _ _ (by simp)
  have hsz : W0.heap.size = w.heap.size + 3 := hW ▸ (by simp)
  clear hW
  refine (HP.out W0 hb0).mono ?_
  rintro e1 w1 ⟨⟨v1, rfl, a, b, c, rfl, ha, hb, hc⟩, hb1⟩
  obtain ⟨A3, c3, rfl, q3⟩ := id ha
  obtain ⟨A4, c4, rfl, q4⟩ := id hb
  obtain ⟨A5, c5, rfl, q5⟩ := id hc
  replace hx6 := hx6.next hb1
  obtain ⟨f0, f1, f2, f3, f4, f5, f6⟩ := seven_free hx6
  obtain ⟨k0, k1, k2, k3, k4, k5, k6⟩ := seven_cells hx6
  have HX := Lib.hid hx6; clear hx6
  have HA := Lib.hid ha; have HB := Lib.hid hb; have HC := Lib.hid hc; clear ha hb hc q3 q4 q5
  go_wp2_with fail
  have r := seven_box (a0 := .int .i64 x) (a1 := .int .i64 h.told.node) (a2 := .int .i64 h.told.state) (a3 := .int .i64 h.told.steps) (a4 := .slice A3 h.told.sent.length c3) (a5 := .slice A4 h.told.inn.length c4) (a6 := .slice A5 h.told.out.length c5) HX.out
  have hfar := fun (q : Nat) (hq : q ≠ w.heap.size + 1 + 1) => seven_far (w := w1) (b := w.heap.size + 1 + 1) (a0 := .int .i64 x) (a1 := .int .i64 h.told.node) (a2 := .int .i64 h.told.state) (a3 := .int .i64 h.told.steps) (a4 := .slice A3 h.told.sent.length c3) (a5 := .slice A4 h.told.inn.length c4) (a6 := .slice A5 h.told.out.length c5) hq
  have hz : (wseven w1 (w.heap.size + 1 + 1) (.int .i64 x) (.int .i64 h.told.node) (.int .i64 h.told.state) (.int .i64 h.told.steps) (.slice A3 h.told.sent.length c3) (.slice A4 h.told.inn.length c4) (.slice A5 h.told.out.length c5)).heap.size = w1.heap.size := seven_size
  have hbl := seven_below (b := w.heap.size + 1 + 1) (a0 := .int .i64 x) (a1 := .int .i64 h.told.node) (a2 := .int .i64 h.told.state) (a3 := .int .i64 h.told.steps) (a4 := .slice A3 h.told.sent.length c3) (a5 := .slice A4 h.told.inn.length c4) (a6 := .slice A5 h.told.out.length c5) (hb0.trans (hb1.mono hb0.size)) (by omega)
  unfold wseven at r
  obtain ⟨g0, g1, g2, g3, g4, g5, g6⟩ := seven_cells r
  refine bodyPost_ret (v := .tuple #[.agg #[.int .i64 x, .int .i64 h.told.node, .int .i64 h.told.state, .int .i64 h.told.steps, .slice A3 h.told.sent.length c3, .slice A4 h.told.inn.length c4, .slice A5 h.told.out.length c5], .bool true]) (by simp [results, Try.results10, go_sem, g0, g1, g2, g3, g4, g5, g6]) rfl ⟨⟨_, _, _, rfl, _, _, _, rfl, ?_, ?_, ?_⟩, hbl⟩
  · exact (HA.out.keep fun q h1 h2 => hfar q (by omega)).widen (by omega) (Nat.le_of_eq hz.symm)
  · exact (HB.out.keep fun q h1 h2 => hfar q (by omega)).widen (by omega) (Nat.le_of_eq hz.symm)
  · exact (HC.out.keep fun q h1 h2 => hfar q (by omega)).widen (by omega) (Nat.le_of_eq hz.symm)

/-- A hue by value. -/
def HueIs (fr : Bool) (w : World) (lo hi : Nat) (v : Value) (e : Int) (p : Pc.Piece) : Prop :=
  ∃ A B C k l m, v = .agg #[.int .i64 e, .int .i64 p.node, .int .i64 p.state, .int .i64 p.steps, .slice A p.sent.length k, .slice B p.inn.length l, .slice C p.out.length m] ∧
    PieceIs fr w lo hi (.agg #[.int .i64 p.node, .int .i64 p.state, .int .i64 p.steps, .slice A p.sent.length k, .slice B p.inn.length l, .slice C p.out.length m]) p
section
variable {fr : Bool} {w w' : World} {lo hi lo' hi' : Nat} {v : Value} {e : Int} {p : Pc.Piece}
theorem HueIs.keep (h : HueIs fr w lo hi v e p) (hk : ∀ b, lo ≤ b → b < hi → w'.heap[b]? = w.heap[b]?) : HueIs fr w' lo hi v e p := by
  obtain ⟨A, B, C, k, l, m, rfl, h⟩ := h; exact ⟨A, B, C, k, l, m, rfl, h.keep hk⟩
theorem HueIs.widen (h : HueIs fr w lo hi v e p) (h1 : lo' ≤ lo) (h2 : hi ≤ hi') : HueIs fr w lo' hi' v e p := by
  obtain ⟨A, B, C, k, l, m, rfl, h⟩ := h; exact ⟨A, B, C, k, l, m, rfl, h.widen h1 h2⟩
theorem HueIs.soft (h : HueIs fr w lo hi v e p) : HueIs false w lo hi v e p := by
  obtain ⟨A, B, C, k, l, m, rfl, h⟩ := h; exact ⟨A, B, C, k, l, m, rfl, h.soft⟩
theorem HueIs.next (h : HueIs fr w lo w.heap.size v e p) (hb : Below w.heap.size w w') : HueIs fr w' lo w'.heap.size v e p := (h.keep fun b _ h2 => hb.block b h2).widen (Nat.le_refl _) hb.size
theorem HueIs.of {a b c : Value} (h : PieceIs fr w lo hi (.agg #[.int .i64 p.node, .int .i64 p.state, .int .i64 p.steps, a, b, c]) p) : HueIs fr w lo hi (.agg #[.int .i64 e, .int .i64 p.node, .int .i64 p.state, .int .i64 p.steps, a, b, c]) e p := by
  obtain ⟨_, _, _, he, ⟨A3, a3, rfl, q3⟩, ⟨A4, a4, rfl, q4⟩, ⟨A5, a5, rfl, q5⟩⟩ := id h
  cases he
  exact ⟨A3, A4, A5, a3, a4, a5, rfl, h⟩
end

set_option maxRecDepth 100000 in
set_option maxHeartbeats 4000000 in
theorem hsame_any (v u : Value) (e e' : Int) (p q : Pc.Piece) (w : World) (h : HueIs false w 0 w.heap.size v e p) (h' : HueIs false w 0 w.heap.size u e' q) : Calls Try.prog 13 #[v, u] w
    fun y w' => y = .returned (.int .i64 (if e = e' ∧ p = q then 1 else 0)) ∧ Below w.heap.size w w' := by
  obtain ⟨A, B, C, k, l, m, rfl, h⟩ := h
  obtain ⟨A', B', C', k', l', m', rfl, h'⟩ := h'
  have hb0 : Below w.heap.size w ((w.alloc (.cells #[.int .i64 e, .int .i64 p.node, .int .i64 p.state, .int .i64 p.steps, .slice A p.sent.length k, .slice B p.inn.length l, .slice C p.out.length m] 37)).alloc (.cells #[.int .i64 e', .int .i64 q.node, .int .i64 q.state, .int .i64 q.steps, .slice A' q.sent.length k', .slice B' q.inn.length l', .slice C' q.out.length m'] 37)) := below_2 _ _ _
  have hy : e = e' → p = q → (if e = e' ∧ p = q then (1 : Int) else 0) = 1 := fun h1 h2 => if_pos ⟨h1, h2⟩
  have hn : ¬ (e = e' ∧ p = q) → (if e = e' ∧ p = q then (1 : Int) else 0) = 0 := fun h1 => if_neg h1
  generalize (if e = e' ∧ p = q then (1 : Int) else 0) = r at hy hn ⊢
  have HY := Lib.hid hy; have HN := Lib.hid hn; clear hy hn
  by_cases h1 : e = e'
  · subst h1
    have b1 : (e != e) = false := by simp
    have HS := Lib.hid (rsame_any _ _ p q _ ((h.below hb0 (Nat.le_refl _)).widen (Nat.le_refl _) hb0.size) ((h'.below hb0 (Nat.le_refl _)).widen (Nat.le_refl _) hb0.size))
    clear h h'
    generalize hd : decide (p = q) = d at HS
    have HD := Lib.hid hd; clear hd
    go_enter Try.func13, Try.ntmps13
    go_wp2_with fail
    refine HS.out.mono ?_
    rintro x w1 ⟨rfl, hb⟩
    cases d
    · go_wp2_with fail
      go_ret
      exact ⟨by rw [HN.out (fun hh => (of_decide_eq_false HD.out) hh.2)]; rfl, hb0.trans (hb.mono hb0.size)⟩
    · go_wp2_with fail
      go_ret
      exact ⟨by rw [HY.out (by trivial) (of_decide_eq_true HD.out)]; rfl, hb0.trans (hb.mono hb0.size)⟩
  · have b1 : (e != e') = true := by simpa using h1
    clear h h'
    have H1 := Lib.hid h1; clear h1
    go_enter Try.func13, Try.ntmps13
    go_wp2_with fail
    go_ret
    exact ⟨by rw [HN.out (fun hh => H1.out hh.1)]; rfl, hb0⟩
end Go.Proofs.Ytmbilaepeekglaa
