/- What the walks of chapter 11's laws use. -/
import Derived.Test.YtmbilaepeekglaaHuX
import Derived.Test.YtmbilaepeekglaaHArg
namespace Go.Proofs.Ytmbilaepeekglaa
open Go.RowKit Go.Maps

theorem two_cells {w : World} {R : Nat} {a b : Value} {T : TypeId} (h : Box w R #[a, b] T) : w.cell? ⟨R, 0, none⟩ = some a ∧ w.cell? ⟨R, 1, none⟩ = some b := ⟨blk_cell h 0, blk_cell h 1⟩
theorem SliceIs.next {α : Type} {r : Rep α} {fr : Bool} {w w' : World} {lo : Nat} {v : Value} {xs : List α} (h : SliceIs r fr w lo w.heap.size v xs) (hb : Below w.heap.size w w') : SliceIs r fr w' lo w'.heap.size v xs := (h.below hb (Nat.le_refl _)).widen (Nat.le_refl _) hb.size
theorem SliceIs.cut {α : Type} {r : Rep α} {fr : Bool} {w : World} {lo hi n c : Nat} {A : Option Addr} {xs : List α} (h : SliceIs r fr w lo hi (.slice A n c) xs) (k : Nat) : SliceIs r fr w lo hi (.slice A (xs.take k).length c) (xs.take k) := by
  obtain ⟨A', c', he, h1, h2, h3⟩ := h
  cases he
  exact ⟨_, _, rfl, by simp; omega, h2, SliceAt.take k h3⟩
/-- The epoch behind a turn. -/
def Hu.E (e x : Int) : Int := if e < x then x else e
/-- What is told behind a turn. -/
def Hu.T (e x : Int) (h : Hu.Host) (p : Pc.Piece) : Pc.Piece := if e < x then h.told else p
theorem turnq {u hv : Value} {e x : Int} {p : Pc.Piece} {h : Hu.Host} {w : World} (hu : HueIs false w 0 w.heap.size u e p) (hh : HostIs false w 0 w.heap.size hv h) (hs : h.sized) :
    Calls Try.prog 9 #[u, hv, .int .i64 x] w fun y w' => (∃ v, y = .returned (.tuple #[v, .bool (decide (e < x))]) ∧ HueIs false w' 0 w'.heap.size v (Hu.E e x) (Hu.T e x h p)) ∧ Below w.heap.size w w' := by
  by_cases hx : e < x
  · refine (turnq_yes hu hh hs hx).mono ?_
    rintro y w' ⟨⟨v, rfl, hv⟩, hb⟩
    refine ⟨⟨v, by rw [decide_eq_true hx], ?_⟩, hb⟩
    rw [Hu.E, if_pos hx, Hu.T, if_pos hx]; exact (hv.widen (Nat.zero_le _) (Nat.le_refl _)).soft
  · refine (turnq_no hu hh (by omega)).mono ?_
    rintro y w' ⟨rfl, hb⟩
    refine ⟨⟨u, by rw [decide_eq_false hx], ?_⟩, hb⟩
    rw [Hu.E, if_neg hx, Hu.T, if_neg hx]; exact hu.next hb
theorem rturnq {u hv : Value} {e x : Int} {p : Pc.Piece} {h : Hu.Host} {w : World} (hu : HueIs false w 0 w.heap.size u e p) (hh : HostIs false w 0 w.heap.size hv h) (hs : h.sized) :
    Calls Try.prog 10 #[u, hv, .int .i64 x] w fun y w' => (∃ v, y = .returned (.tuple #[v, .bool (decide (e < x))]) ∧ HueIs false w' 0 w'.heap.size v (Hu.E e x) (Hu.T e x h p)) ∧ Below w.heap.size w w' := by
  by_cases hx : e < x
  · refine (rturnq_yes hu hh hs hx).mono ?_
    rintro y w' ⟨⟨v, rfl, hv⟩, hb⟩
    refine ⟨⟨v, by rw [decide_eq_true hx], ?_⟩, hb⟩
    rw [Hu.E, if_pos hx, Hu.T, if_pos hx]; exact (hv.widen (Nat.zero_le _) (Nat.le_refl _)).soft
  · refine (rturnq_no hu hh (by omega)).mono ?_
    rintro y w' ⟨rfl, hb⟩
    refine ⟨⟨u, by rw [decide_eq_false hx], ?_⟩, hb⟩
    rw [Hu.E, if_neg hx, Hu.T, if_neg hx]; exact hu.next hb
theorem hostRefq {v : Value} {h : Hu.Host} {w : World} {fr : Bool} {lo hi : Nat} {w0 : World} (hu : HostIs fr w0 lo hi v h) : Calls Try.prog 12 #[v] w fun y w' => y = .returned v ∧ Below w.heap.size w w' := by
  obtain ⟨a, b, rfl, ⟨A, k, rfl, _⟩, ⟨B, l, rfl, _⟩⟩ := hu
  exact hostRef_any _ _ _ _ _ _ _ _ _ w
theorem rdoneq {u : Value} {e x : Int} {p : Pc.Piece} {w : World} {b : Bool} (hu : HueIs false w 0 w.heap.size u e p) (hb : decide (x ≤ e) = b) : Calls Try.prog 15 #[u, .int .i64 x] w fun y w' => y = .returned (.bool b) ∧ Below w.heap.size w w' := by
  obtain ⟨A, B, C, k, l, m, rfl, _⟩ := hu
  subst hb; exact rdone_any _ _ _ _ _ _ _ _ w
theorem rrestq {v u : Value} {out : List Int} {l r : List (Int × Int)} {w : World} (h : SliceIs Rep.int false w 0 w.heap.size v out) (h' : SliceIs Rep.msg false w 0 w.heap.size u l) (hx : out.length ≤ 1000000) (hr : Hu.rest out l = r) :
    Calls Try.prog 18 #[v, u] w fun y w' => (∃ A c, y = .returned (.slice A r.length c) ∧ c ≤ maxLen ∧ SliceIs Rep.msg true w' w.heap.size w'.heap.size (.slice A r.length c) r) ∧ Below w.heap.size w w' := by
  subst hr
  refine (rrest_any v u out l w h h' hx).mono ?_
  rintro y w' ⟨⟨v', rfl, hv⟩, hb⟩
  obtain ⟨A, c, rfl, _, hc, _⟩ := id hv
  exact ⟨⟨A, c, rfl, hc, hv⟩, hb⟩
theorem rmixedq {v u : Value} {out : List Int} {l : List (Int × Int)} {w : World} {b : Bool} (h : SliceIs Rep.int false w 0 w.heap.size v out) (h' : SliceIs Rep.msg false w 0 w.heap.size u l) (hx : out.length ≤ 1000000) (hwf : ∀ m ∈ l, Wf m.1) (hr : Hu.mixed out l = b) :
    Calls Try.prog 20 #[v, u] w fun y w' => y = .returned (.bool b) ∧ Below w.heap.size w w' := by
  subst hr
  exact (rmixed_any v u out l w h h' hx hwf).mono fun y w' h => ⟨h.1, h.2.below⟩
theorem placeq {v : Value} {l : List (Int × Int)} {s n : Int} {w : World} (h : SliceIs Rep.msg false w 0 w.heap.size v l) (hn : Hu.place l s = n) :
    Calls Try.prog 22 #[v, .int .i64 s] w fun y w' => y = .returned (.int .i64 n) ∧ Below w.heap.size w w' := by
  subst hn
  exact (place_any v l s w h).mono fun y w' h => ⟨h.1, h.2.below⟩
theorem GotIs.is {α : Type} {r : Rep α} {w : World} {u : Value} {xs : List α} (h : GotIs r w u xs) : SliceIs r true w 0 w.heap.size u xs := by obtain ⟨_, _, _, _, h⟩ := h; exact h
theorem HueIs.form {fr : Bool} {w : World} {lo hi : Nat} {v : Value} {e : Int} {p : Pc.Piece} (h : HueIs fr w lo hi v e p) : ∃ A B C k l m, v = .agg #[.int .i64 e, .int .i64 p.node, .int .i64 p.state, .int .i64 p.steps, .slice A p.sent.length k, .slice B p.inn.length l, .slice C p.out.length m] := by
  obtain ⟨A, B, C, k, l, m, rfl, A', B', C', he, ⟨a, a', rfl, _⟩, ⟨b, b', rfl, _⟩, ⟨c, c', rfl, _⟩⟩ := h
  cases he
  exact ⟨_, _, _, _, _, _, rfl⟩
/-- A hue that was there when there were hi blocks. -/
def Old (w : World) (hi : Nat) (v : Value) (e : Int) (p : Pc.Piece) : Prop := HueIs false w 0 hi v e p ∧ hi ≤ w.heap.size
theorem Old.next {w w' : World} {hi : Nat} {v : Value} {e : Int} {p : Pc.Piece} (h : Old w hi v e p) (hb : Below w.heap.size w w') : Old w' hi v e p := ⟨h.1.keep fun b _ h2 => hb.block b (Nat.lt_of_lt_of_le h2 h.2), Nat.le_trans h.2 hb.size⟩
/-- A hue whose lists lie ahead of block hi, or from block s on. -/
def NewIs (w : World) (hi s : Nat) (v : Value) (e : Int) (p : Pc.Piece) : Prop := ∃ l h, HueIs false w l h v e p ∧ (h ≤ hi ∨ s ≤ l) ∧ h ≤ w.heap.size
theorem NewIs.next {w w' : World} {hi s : Nat} {v : Value} {e : Int} {p : Pc.Piece} (h : NewIs w hi s v e p) (hb : Below w.heap.size w w') : NewIs w' hi s v e p := by
  obtain ⟨l, k, h1, h2, h3⟩ := h
  exact ⟨l, k, h1.keep fun b _ h4 => hb.block b (by omega), h2, Nat.le_trans h3 hb.size⟩
theorem NewIs.all {w : World} {hi s : Nat} {v : Value} {e : Int} {p : Pc.Piece} (h : NewIs w hi s v e p) : HueIs false w 0 w.heap.size v e p := by
  obtain ⟨l, k, h1, h2, h3⟩ := h
  exact h1.widen (Nat.zero_le _) h3
theorem NewIs.form {w : World} {hi s : Nat} {v : Value} {e : Int} {p : Pc.Piece} (h : NewIs w hi s v e p) : ∃ A B C k l m, v = .agg #[.int .i64 e, .int .i64 p.node, .int .i64 p.state, .int .i64 p.steps, .slice A p.sent.length k, .slice B p.inn.length l, .slice C p.out.length m] := by
  obtain ⟨l, k, h1, h2, h3⟩ := h
  exact h1.form
theorem turnq2 {u hv : Value} {e x : Int} {p : Pc.Piece} {h : Hu.Host} {w : World} {hi : Nat} (hu : Old w hi u e p) (hh : HostIs false w 0 w.heap.size hv h) (hs : h.sized) :
    Calls Try.prog 9 #[u, hv, .int .i64 x] w fun y w' => (∃ v, y = .returned (.tuple #[v, .bool (decide (e < x))]) ∧ NewIs w' hi w.heap.size v (Hu.E e x) (Hu.T e x h p)) ∧ Below w.heap.size w w' := by
  have hu' : HueIs false w 0 w.heap.size u e p := hu.1.widen (Nat.le_refl _) hu.2
  by_cases hx : e < x
  · refine (turnq_yes hu' hh hs hx).mono ?_
    rintro y w' ⟨⟨v, rfl, hv⟩, hb⟩
    refine ⟨⟨v, by rw [decide_eq_true hx], ?_⟩, hb⟩
    rw [Hu.E, if_pos hx, Hu.T, if_pos hx]; exact ⟨_, _, hv.soft, .inr (Nat.le_refl _), Nat.le_refl _⟩
  · refine (turnq_no hu' hh (by omega)).mono ?_
    rintro y w' ⟨rfl, hb⟩
    refine ⟨⟨u, by rw [decide_eq_false hx], ?_⟩, hb⟩
    rw [Hu.E, if_neg hx, Hu.T, if_neg hx]; exact ⟨_, _, (hu.next hb).1, .inl (Nat.le_refl _), (hu.next hb).2⟩
theorem rturnq2 {u hv : Value} {e x : Int} {p : Pc.Piece} {h : Hu.Host} {w : World} {hi : Nat} (hu : Old w hi u e p) (hh : HostIs false w 0 w.heap.size hv h) (hs : h.sized) :
    Calls Try.prog 10 #[u, hv, .int .i64 x] w fun y w' => (∃ v, y = .returned (.tuple #[v, .bool (decide (e < x))]) ∧ NewIs w' hi w.heap.size v (Hu.E e x) (Hu.T e x h p)) ∧ Below w.heap.size w w' := by
  have hu' : HueIs false w 0 w.heap.size u e p := hu.1.widen (Nat.le_refl _) hu.2
  by_cases hx : e < x
  · refine (rturnq_yes hu' hh hs hx).mono ?_
    rintro y w' ⟨⟨v, rfl, hv⟩, hb⟩
    refine ⟨⟨v, by rw [decide_eq_true hx], ?_⟩, hb⟩
    rw [Hu.E, if_pos hx, Hu.T, if_pos hx]; exact ⟨_, _, hv.soft, .inr (Nat.le_refl _), Nat.le_refl _⟩
  · refine (rturnq_no hu' hh (by omega)).mono ?_
    rintro y w' ⟨rfl, hb⟩
    refine ⟨⟨u, by rw [decide_eq_false hx], ?_⟩, hb⟩
    rw [Hu.E, if_neg hx, Hu.T, if_neg hx]; exact ⟨_, _, (hu.next hb).1, .inl (Nat.le_refl _), (hu.next hb).2⟩
/-- A box that holds a hue. -/
def HBox (T : TypeId) (w : World) (g : Nat) (e : Int) (p : Pc.Piece) : Prop :=
  ∃ A B C k l m, Box w g #[.int .i64 e, .int .i64 p.node, .int .i64 p.state, .int .i64 p.steps, .slice A p.sent.length k, .slice B p.inn.length l, .slice C p.out.length m] T ∧
    HueIs false w 0 w.heap.size (.agg #[.int .i64 e, .int .i64 p.node, .int .i64 p.state, .int .i64 p.steps, .slice A p.sent.length k, .slice B p.inn.length l, .slice C p.out.length m]) e p
theorem HBox.next {T : TypeId} {w w' : World} {g : Nat} {e : Int} {p : Pc.Piece} (h : HBox T w g e p) (hb : Below w.heap.size w w') : HBox T w' g e p := by
  obtain ⟨A, B, C, k, l, m, h1, h2⟩ := h
  exact ⟨A, B, C, k, l, m, h1.next hb, h2.next hb⟩
/-- What is left by a turn whose answers are kept in a box and in a slot. -/
def TurnPost (T : TypeId) (W : World) (e : Int) (p : Pc.Piece) (b : Bool) (x y : Value) (wx : World) : Prop :=
  ∃ g, x = .pointer (some ⟨g, 0, none⟩) ∧ y = .bool b ∧ W.heap.size ≤ g ∧ HBox T wx g e p ∧ Below W.heap.size W wx
theorem TurnPost.late {T : TypeId} {W w : World} {e : Int} {p : Pc.Piece} {b : Bool} {hi s k l m : Nat} {A B C : Option Addr}
    (hn : NewIs w hi s (.agg #[.int .i64 e, .int .i64 p.node, .int .i64 p.state, .int .i64 p.steps, .slice A p.sent.length k, .slice B p.inn.length l, .slice C p.out.length m]) e p) (hV : Below W.heap.size W w) :
    TurnPost T W e p b (.pointer (some ⟨w.heap.size, 0, none⟩)) (.bool b) (w.alloc (.cells #[.int .i64 e, .int .i64 p.node, .int .i64 p.state, .int .i64 p.steps, .slice A p.sent.length k, .slice B p.inn.length l, .slice C p.out.length m] T)) :=
  ⟨_, rfl, rfl, hV.size, ⟨A, B, C, k, l, m, Box.new _ _ _, (hn.next ((Below.refl _ _).alloc (Nat.le_refl _) _)).all⟩, hV.alloc hV.size _⟩
theorem TurnPost.early {T : TypeId} {W w : World} {e : Int} {p : Pc.Piece} {b : Bool} {hi s k l m g : Nat} {A B C : Option Addr} {x0 x1 x2 x3 x4 x5 x6 : Value}
    (hn : NewIs w hi s (.agg #[.int .i64 e, .int .i64 p.node, .int .i64 p.state, .int .i64 p.steps, .slice A p.sent.length k, .slice B p.inn.length l, .slice C p.out.length m]) e p) (hV : Below W.heap.size W w)
    (hg : Box w g #[x0, x1, x2, x3, x4, x5, x6] T) (hlo : W.heap.size ≤ g) (h1 : hi ≤ g) (h2 : g < s) :
    TurnPost T W e p b (.pointer (some ⟨g, 0, none⟩)) (.bool b) (wseven w g (.int .i64 e) (.int .i64 p.node) (.int .i64 p.state) (.int .i64 p.steps) (.slice A p.sent.length k) (.slice B p.inn.length l) (.slice C p.out.length m)) := by
  obtain ⟨lo', hi', h3, h4, h5⟩ := hn
  refine ⟨g, rfl, rfl, hlo, ⟨A, B, C, k, l, m, seven_box hg, ?_⟩, seven_below hV hlo⟩
  exact (h3.keep fun c hc1 hc2 => seven_far (by omega)).widen (Nat.zero_le _) (by rw [seven_size]; exact h5)
theorem name_any {P : Program} {Q : Exit → Act → World → Prop} {md : Region.Mode} {M : Nat} {wM : World} {ops : Array Oper} {fuel : Nat} {li : Array Bool} {a : Act} {w : World} (h : ∀ W, w = W → wpAnyM P md ops Q M wM fuel li a W) : wpAnyM P md ops Q M wM fuel li a w := h w rfl
/-- A piece without lists. -/
def Pc.Bare (p : Pc.Piece) : Prop := p.sent = [] ∧ p.inn = [] ∧ p.out = []
theorem SliceIs.any_nil {α : Type} {r : Rep α} {fr fr' : Bool} {w w' : World} {lo hi lo' hi' : Nat} {v : Value} (h : SliceIs r fr w lo hi v []) : SliceIs r fr' w' lo' hi' v [] := by
  obtain ⟨A, c, rfl, h1, h2, _⟩ := h
  exact ⟨A, c, rfl, h1, h2, [], rfl, fun h => absurd h (by simp)⟩
theorem HueIs.move {fr fr' : Bool} {w w' : World} {lo hi lo' hi' : Nat} {v : Value} {e : Int} {p : Pc.Piece} (h : HueIs fr w lo hi v e p) (hp : Pc.Bare p) : HueIs fr' w' lo' hi' v e p := by
  obtain ⟨n, s, t, a, b, c⟩ := p
  obtain ⟨ha, hb, hc⟩ := hp
  dsimp only at ha hb hc
  subst ha hb hc
  obtain ⟨A, B, C, k, l, m, rfl, x, y, z, he, h1, h2, h3⟩ := h
  cases he
  exact ⟨_, _, _, _, _, _, rfl, _, _, _, rfl, SliceIs.any_nil h1, SliceIs.any_nil h2, SliceIs.any_nil h3⟩
theorem HBox.move {T : TypeId} {w w' : World} {g : Nat} {e : Int} {p : Pc.Piece} (h : HBox T w g e p) (hp : Pc.Bare p) (hb : w'.heap[g]? = w.heap[g]?) : HBox T w' g e p := by
  obtain ⟨A, B, C, k, l, m, h1, h2⟩ := h
  exact ⟨A, B, C, k, l, m, hb.trans h1, h2.move hp⟩
theorem HBox.lt {T : TypeId} {w : World} {g : Nat} {e : Int} {p : Pc.Piece} (h : HBox T w g e p) : g < w.heap.size := by
  obtain ⟨A, B, C, k, l, m, h1, h2⟩ := h
  exact h1.lt
theorem cell_at {w W : World} {g o j : Nat} {x : Int} {xs : List Int} (hA : SliceAt Rep.int false w 0 w.heap.size (some ⟨g, o, none⟩) xs) (hb : Below w.heap.size w W) (hx : xs[j]? = some x) : W.cell? ⟨g, o + j, none⟩ = some (.int .i64 x) := by
  obtain ⟨g', o', he, _, _, hc⟩ := (hA.below hb (Nat.le_refl _)).int hx
  cases he
  exact hc
end Go.Proofs.Ytmbilaepeekglaa
