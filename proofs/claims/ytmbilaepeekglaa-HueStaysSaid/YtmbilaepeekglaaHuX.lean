/- cameolaw11.fixed: calls whose answers the document fixes. -/
import Derived.Test.YtmbilaepeekglaaHuK
import Derived.Test.YtmbilaepeekglaaBlock
namespace Go.Proofs.Ytmbilaepeekglaa
open Go.RowKit Go.Maps
set_option linter.unusedVariables false

/-- A list that was made on the spot. -/
def LitIs {α : Type} (r : Rep α) (w : World) (u : Value) (xs : List α) : Prop := ∃ g, u = .slice (some ⟨g, 0, none⟩) xs.length xs.length ∧ SliceIs r true w 0 w.heap.size u xs
section
variable {α : Type} {r : Rep α} {w w' : World} {u : Value} {xs : List α}
theorem LitIs.next (h : LitIs r w u xs) (hb : Below w.heap.size w w') : LitIs r w' u xs := by
  obtain ⟨g, rfl, h⟩ := h
  exact ⟨g, rfl, (h.below hb (Nat.le_refl _)).widen (Nat.le_refl _) hb.size⟩
theorem LitIs.slice (h : LitIs r w u xs) : SliceIs r true w 0 w.heap.size u xs := by obtain ⟨_, _, h⟩ := h; exact h
theorem LitIs.soft (h : LitIs r w u xs) : SliceIs r false w 0 w.heap.size u xs := h.slice.soft
theorem LitIs.new {cells : List Value} (w : World) (e : TypeId) (xs : List α) (ha : r.all true (w.alloc (.cells cells.toArray e)) (rng 0 (w.alloc (.cells cells.toArray e)).heap.size) cells xs) (hl : xs.length ≤ maxLen) :
    LitIs r (w.alloc (.cells cells.toArray e)) (.slice (some ⟨w.heap.size, 0, none⟩) xs.length xs.length) xs :=
  ⟨_, rfl, SliceOn.is_ (SliceOn.of_block (Box.new _ _ _) ha ⟨Nat.zero_le _, by simp⟩ rfl (Nat.le_refl _) hl)⟩
theorem LitIs.row (h : LitIs r w u xs) : r.slice.all true w (rng 0 w.heap.size) [u] [xs] := ⟨[u], [], rfl, ⟨u, rfl, h.slice⟩, rfl⟩
end
/-- A list. -/
def GotIs {α : Type} (r : Rep α) (w : World) (u : Value) (xs : List α) : Prop := ∃ A c, u = .slice A xs.length c ∧ c ≤ maxLen ∧ SliceIs r true w 0 w.heap.size u xs
theorem GotIs.next {α : Type} {r : Rep α} {w w' : World} {u : Value} {xs : List α} (h : GotIs r w u xs) (hb : Below w.heap.size w w') : GotIs r w' u xs := by
  obtain ⟨A, c, rfl, hc, h⟩ := h
  exact ⟨A, c, rfl, hc, (h.below hb (Nat.le_refl _)).widen (Nat.le_refl _) hb.size⟩
theorem GotIs.of {α : Type} {r : Rep α} {w : World} {A : Option Addr} {c lo : Nat} {xs : List α} (h : SliceIs r true w lo w.heap.size (.slice A xs.length c) xs) (hc : c ≤ maxLen) : GotIs r w (.slice A xs.length c) xs := ⟨A, c, rfl, hc, h.widen (Nat.zero_le _) (Nat.le_refl _)⟩
theorem maxLen_le {n : Nat} (h : n ≤ 1000) : n ≤ maxLen := by unfold maxLen; omega

theorem turnq_yes {u hv : Value} {e x : Int} {p : Pc.Piece} {h : Hu.Host} {w : World} (hu : HueIs false w 0 w.heap.size u e p) (hh : HostIs false w 0 w.heap.size hv h) (hs : h.sized) (hx : e < x) :
    Calls Try.prog 9 #[u, hv, .int .i64 x] w fun y w' => (∃ v, y = .returned (.tuple #[v, .bool true]) ∧ HueIs true w' w.heap.size w'.heap.size v x h.told) ∧ Below w.heap.size w w' := by
  obtain ⟨A, B, C, k, l, m, rfl, _⟩ := hu
  refine (turn_yes e _ _ _ x A B C _ _ _ k l m hv h w hh hs hx).mono ?_
  rintro y w' ⟨⟨a, b, c, rfl, hp⟩, hb⟩
  exact ⟨⟨_, rfl, HueIs.of (p := h.told) hp⟩, hb⟩
theorem turnq_no {u hv : Value} {e x : Int} {p : Pc.Piece} {h : Hu.Host} {w : World} (hu : HueIs false w 0 w.heap.size u e p) (hh : HostIs false w 0 w.heap.size hv h) (hx : x ≤ e) :
    Calls Try.prog 9 #[u, hv, .int .i64 x] w fun y w' => y = .returned (.tuple #[u, .bool false]) ∧ Below w.heap.size w w' := by
  obtain ⟨A, B, C, k, l, m, rfl, _⟩ := hu
  exact turn_no e _ _ _ x A B C _ _ _ k l m hv h w hh hx
theorem rturnq_yes {u hv : Value} {e x : Int} {p : Pc.Piece} {h : Hu.Host} {w : World} (hu : HueIs false w 0 w.heap.size u e p) (hh : HostIs false w 0 w.heap.size hv h) (hs : h.sized) (hx : e < x) :
    Calls Try.prog 10 #[u, hv, .int .i64 x] w fun y w' => (∃ v, y = .returned (.tuple #[v, .bool true]) ∧ HueIs true w' w.heap.size w'.heap.size v x h.told) ∧ Below w.heap.size w w' := by
  obtain ⟨A, B, C, k, l, m, rfl, _⟩ := hu
  refine (rturn_yes e _ _ _ x A B C _ _ _ k l m hv h w hh hs hx).mono ?_
  rintro y w' ⟨⟨a, b, c, rfl, hp⟩, hb⟩
  exact ⟨⟨_, rfl, HueIs.of (p := h.told) hp⟩, hb⟩
theorem rturnq_no {u hv : Value} {e x : Int} {p : Pc.Piece} {h : Hu.Host} {w : World} (hu : HueIs false w 0 w.heap.size u e p) (hh : HostIs false w 0 w.heap.size hv h) (hx : x ≤ e) :
    Calls Try.prog 10 #[u, hv, .int .i64 x] w fun y w' => y = .returned (.tuple #[u, .bool false]) ∧ Below w.heap.size w w' := by
  obtain ⟨A, B, C, k, l, m, rfl, _⟩ := hu
  exact rturn_no e _ _ _ x A B C _ _ _ k l m hv h w hh hx
theorem doneq {u : Value} {e x : Int} {p : Pc.Piece} {w : World} {b : Bool} (hu : HueIs false w 0 w.heap.size u e p) (hb : decide (x ≤ e) = b) : Calls Try.prog 14 #[u, .int .i64 x] w fun y w' => y = .returned (.bool b) ∧ Below w.heap.size w w' := by
  obtain ⟨A, B, C, k, l, m, rfl, _⟩ := hu
  subst hb; exact done_any _ _ _ _ _ _ _ _ w
theorem hueRefq {u : Value} {e : Int} {p : Pc.Piece} {w : World} {fr : Bool} {lo hi : Nat} {w0 : World} (hu : HueIs fr w0 lo hi u e p) : Calls Try.prog 11 #[u] w fun y w' => y = .returned u ∧ Below w.heap.size w w' := by
  obtain ⟨A, B, C, k, l, m, rfl, _⟩ := hu
  exact hueRef_any _ _ _ _ _ _ _ _ _ _ _ _ _ w
theorem hsameq {v u : Value} {e e' : Int} {p q : Pc.Piece} {w : World} {n : Int} (h : HueIs false w 0 w.heap.size v e p) (h' : HueIs false w 0 w.heap.size u e' q) (hn : (if e = e' ∧ p = q then 1 else 0) = n) : Calls Try.prog 13 #[v, u] w
    fun y w' => y = .returned (.int .i64 n) ∧ Below w.heap.size w w' := by subst hn; exact hsame_any v u e e' p q w h h'
theorem restq {v u : Value} {out : List Int} {l r : List (Int × Int)} {w : World} (h : SliceIs Rep.int false w 0 w.heap.size v out) (h' : SliceIs Rep.msg false w 0 w.heap.size u l) (hx : out.length ≤ 1000000) (hl : l.length ≤ 1000000) (hwf : ∀ m ∈ l, Wf m.1) (hr : Hu.rest out l = r) :
    Calls Try.prog 17 #[v, u] w fun y w' => (∃ A c, y = .returned (.slice A r.length c) ∧ c ≤ maxLen ∧ SliceIs Rep.msg true w' w.heap.size w'.heap.size (.slice A r.length c) r) ∧ Below w.heap.size w w' := by
  subst hr
  refine (rest_any v u out l w h h' hx hl hwf).mono ?_
  rintro y w' ⟨⟨v', rfl, hv⟩, hb⟩
  obtain ⟨A, c, rfl, _, hc, _⟩ := id hv
  exact ⟨⟨A, c, rfl, hc, hv⟩, hb⟩
theorem mixedq {v u : Value} {out : List Int} {l : List (Int × Int)} {w : World} {b : Bool} (h : SliceIs Rep.int false w 0 w.heap.size v out) (h' : SliceIs Rep.msg false w 0 w.heap.size u l) (hx : out.length ≤ 1000000) (hl : l.length ≤ 1000000) (hwf : ∀ m ∈ l, Wf m.1) (hr : Hu.mixed out l = b) :
    Calls Try.prog 19 #[v, u] w fun y w' => y = .returned (.bool b) ∧ Below w.heap.size w w' := by subst hr; exact mixed_any v u out l w h h' hx hl hwf
theorem msgsq {v u : Value} {xs ys : List (Int × Int)} {w : World} {b : Bool} (h : SliceIs Rep.msg false w 0 w.heap.size v xs) (h' : SliceIs Rep.msg false w 0 w.heap.size u ys) (hb : decide (xs = ys) = b) :
    Calls Try.prog 16 #[v, u] w fun x w' => x = .returned (.bool b) ∧ Below w.heap.size w w' := by
  subst hb
  exact (msgs_any v u xs ys w h h').mono fun x w' h => ⟨h.1, h.2.below⟩
theorem rsameq {v u : Value} {p q : Pc.Piece} {w : World} {b : Bool} (h : PieceIs false w 0 w.heap.size v p) (h' : PieceIs false w 0 w.heap.size u q) (hb : decide (p = q) = b) : Calls Try.prog 26 #[v, u] w
    fun x w' => x = .returned (.bool b) ∧ Below w.heap.size w w' := by subst hb; exact rsame_any v u p q w h h'
theorem HueIs.piece {fr : Bool} {w : World} {lo hi : Nat} {e : Int} {p : Pc.Piece} {n s t : Value} {a b c : Value} {x : Value} (h : HueIs fr w lo hi (.agg #[x, n, s, t, a, b, c]) e p) : PieceIs fr w lo hi (.agg #[n, s, t, a, b, c]) p := by
  obtain ⟨A, B, C, k, l, m, he, h⟩ := h
  cases he; exact h
theorem wf_small {l : List (Int × Int)} (h : (l.all fun m => decide (-1000 ≤ m.1) && decide (m.1 ≤ 1000)) = true) : ∀ m ∈ l, Wf m.1 := by
  intro m hm
  have := List.all_eq_true.1 h m hm
  simp only [Bool.and_eq_true, decide_eq_true_eq] at this
  exact wf_of (by omega) (by omega)
def H1 : Hu.Host := ⟨2, 0, 4, [[(1, 0)]], [[3]]⟩
def P1 : Pc.Piece := ⟨2, 0, 4, [1], [[(1, 0)]], [[3]]⟩

set_option maxRecDepth 100000 in
set_option maxHeartbeats 8000000 in
theorem fixed11_any (w : World) : Calls Try.prog 21 #[] w fun x w' => x = .returned (.bool true) ∧ Below w.heap.size w w' := by
  go_enter Try.func21, Try.ntmps21
  try simp only [List.append_eq, List.cons_append, List.nil_append]
  go_wp2_with fail
  refine name_call fun W0 hW0 => ?_
  have bx0 : Box W0 (w.heap.size) #[.int .i64 1, .int .i64 0] 54 := hW0 ▸ (((((Box.new' #[.int .i64 1, .int .i64 0] 54 (by simp)).alloc _).alloc _).alloc _).alloc _)
  have bx1 : Box W0 (w.heap.size + 1) #[.slice (some ⟨w.heap.size, 0, none⟩) 1 1] 24 := hW0 ▸ ((((Box.new' #[.slice (some ⟨w.heap.size, 0, none⟩) 1 1] 24 (by simp)).alloc _).alloc _).alloc _)
  have bx2 : Box W0 (w.heap.size + 1 + 1) #[.int .i64 3] 3 := hW0 ▸ (((Box.new' #[.int .i64 3] 3 (by simp)).alloc _).alloc _)
  have bx3 : Box W0 (w.heap.size + 1 + 1 + 1) #[.slice (some ⟨w.heap.size + 1 + 1, 0, none⟩) 1 1] 23 := hW0 ▸ ((Box.new' #[.slice (some ⟨w.heap.size + 1 + 1, 0, none⟩) 1 1] 23 (by simp)).alloc _)
  have bx4 : Box W0 (w.heap.size + 1 + 1 + 1 + 1) #[.int .i64 2, .int .i64 0, .int .i64 4, .slice (some ⟨w.heap.size + 1, 0, none⟩) 1 1, .slice (some ⟨w.heap.size + 1 + 1 + 1, 0, none⟩) 1 1] 28 := hW0 ▸ (Box.new' #[.int .i64 2, .int .i64 0, .int .i64 4, .slice (some ⟨w.heap.size + 1, 0, none⟩) 1 1, .slice (some ⟨w.heap.size + 1 + 1 + 1, 0, none⟩) 1 1] 28 (by simp))
  have hB : Below w.heap.size w W0 := hW0 ▸ (((((Below.refl _ _).alloc (by first | (simp; done) | (simp; omega)) _).alloc (by first | (simp; done) | (simp; omega)) _).alloc (by first | (simp; done) | (simp; omega)) _).alloc (by first | (simp; done) | (simp; omega)) _).alloc (by first | (simp; done) | (simp; omega)) _
  have hh : HostIs false W0 0 W0.heap.size (.agg #[.int .i64 2, .int .i64 0, .int .i64 4, .slice (some ⟨w.heap.size + 1, 0, none⟩) 1 1, .slice (some ⟨w.heap.size + 1 + 1 + 1, 0, none⟩) 1 1]) H1 := by
    refine ⟨_, _, rfl, SliceOn.is_ ?_, SliceOn.is_ ?_⟩
    · refine SliceOn.of_block (cells := [.slice (some ⟨w.heap.size, 0, none⟩) 1 1]) bx1 ⟨[_], [], rfl, ⟨_, rfl, ?_⟩, rfl⟩ ⟨Nat.zero_le _, bx1.lt⟩ rfl (by decide) (by unfold maxLen; omega)
      exact SliceOn.of_block (r := Rep.msg) (xs := [(1, 0)]) (cells := [.int .i64 1, .int .i64 0]) bx0 ⟨[_, _], [], rfl, rfl, rfl⟩ ⟨Nat.zero_le _, bx0.lt⟩ rfl (by decide) (by unfold maxLen; omega)
    · refine SliceOn.of_block (cells := [.slice (some ⟨w.heap.size + 1 + 1, 0, none⟩) 1 1]) bx3 ⟨[_], [], rfl, ⟨_, rfl, ?_⟩, rfl⟩ ⟨Nat.zero_le _, bx3.lt⟩ rfl (by decide) (by unfold maxLen; omega)
      exact SliceOn.of_block (r := Rep.int) (xs := [3]) (cells := [.int .i64 3]) bx2 (ints_all _ _ _ [3]) ⟨Nat.zero_le _, bx2.lt⟩ rfl (by decide) (by unfold maxLen; omega)
  have hz : HueIs false W0 0 W0.heap.size (.agg #[.int .i64 0, .int .i64 0, .int .i64 0, .int .i64 0, .slice none 0 0, .slice none 0 0, .slice none 0 0]) 0 Pc.zero := HueIs.of (p := Pc.zero) ⟨_, _, _, rfl, SliceIs.none_, SliceIs.none_, SliceIs.none_⟩
  clear bx0 bx1 bx2 bx3 hW0
  refine (turnq_yes hz hh ⟨by decide, by decide, by decide, by decide⟩ (by decide)).mono ?_
  rintro e w1 ⟨⟨v1, rfl, hu⟩, hb⟩
  replace bx4 := bx4.next hb
  replace hh := hh.next hb
  replace hz := hz.next hb
  replace hB := hB.trans (hb.mono hB.size)
  clear hb
  replace hu : HueIs false w1 0 w1.heap.size v1 2 P1 := (hu.widen (Nat.zero_le _) (Nat.le_refl _)).soft
  obtain ⟨X3, X4, X5, x3, x4, x5, rfl, _⟩ := id hu
  dsimp only [P1, List.length_cons, List.length_nil] at hu ⊢
  obtain ⟨k0, k1, k2, k3, k4⟩ := five_cells (bx4.alloc (.cells #[.int .i64 2, .int .i64 2, .int .i64 0, .int .i64 4, .slice X3 1 x3, .slice X4 1 x4, .slice X5 1 x5] 32))
  go_wp2_with fail
  clear k0 k1 k2 k3 k4
  refine (turnq_no (hu.next ((Below.refl _ _).alloc (Nat.le_refl _) _)) (hh.next ((Below.refl _ _).alloc (Nat.le_refl _) _)) (by decide)).mono ?_
  rintro e w2 ⟨rfl, hb⟩
  have bx5 := (Box.new w1 #[.int .i64 2, .int .i64 2, .int .i64 0, .int .i64 4, .slice X3 1 x3, .slice X4 1 x4, .slice X5 1 x5] 32).next hb
  replace hb : Below w1.heap.size w1 w2 := ((Below.refl _ _).alloc (Nat.le_refl _) _).trans (hb.mono (by simp))
  replace bx4 := bx4.next hb
  replace hh := hh.next hb
  replace hz := hz.next hb
  replace hu := hu.next hb
  replace hB := hB.trans (hb.mono hB.size)
  clear hb
  obtain ⟨k0, k1, k2, k3, k4⟩ := five_cells (bx4.alloc (.cells #[.int .i64 2, .int .i64 2, .int .i64 0, .int .i64 4, .slice X3 1 x3, .slice X4 1 x4, .slice X5 1 x5] 32))
  obtain ⟨c0, c1, c2, c3, c4, c5, c6⟩ := seven_cells (bx5.alloc (.cells #[.int .i64 2, .int .i64 2, .int .i64 0, .int .i64 4, .slice X3 1 x3, .slice X4 1 x4, .slice X5 1 x5] 32))
  go_wp2_with fail
  clear k0 k1 k2 k3 k4
  clear c0 c1 c2 c3 c4 c5 c6
  refine (turnq_no (hu.next ((Below.refl _ _).alloc (Nat.le_refl _) _)) (hh.next ((Below.refl _ _).alloc (Nat.le_refl _) _)) (by decide)).mono ?_
  rintro e w3 ⟨rfl, hb⟩
  have bx6 := (Box.new w2 #[.int .i64 2, .int .i64 2, .int .i64 0, .int .i64 4, .slice X3 1 x3, .slice X4 1 x4, .slice X5 1 x5] 32).next hb
  replace hb : Below w2.heap.size w2 w3 := ((Below.refl _ _).alloc (Nat.le_refl _) _).trans (hb.mono (by simp))
  replace bx4 := bx4.next hb
  replace hh := hh.next hb
  replace hz := hz.next hb
  replace hu := hu.next hb
  replace bx5 := bx5.next hb
  replace hB := hB.trans (hb.mono hB.size)
  clear hb
  clear bx4 hh hz
  go_wp2_with fail
  refine name_wp fun W1 hW1 => ?_
  have hb : Below w3.heap.size w3 W1 := hW1 ▸ (((Below.refl _ _).alloc (Nat.le_refl _) _).alloc (by simp) _).alloc (by first | (simp; done) | (simp; omega)) _
  have hout : LitIs Rep.int W1 (.slice (some ⟨w3.heap.size + 1, 0, none⟩) 3 3) [3, 1, 2] := by
    have h0 := (LitIs.new (r := Rep.int) (cells := [.int .i64 3, .int .i64 1, .int .i64 2]) (w3.alloc (.cells #[.int .i64 2, .int .i64 2, .int .i64 0, .int .i64 4, .slice X3 1 x3, .slice X4 1 x4, .slice X5 1 x5] 32)) 3 [3, 1, 2] (ints_all _ _ _ [3, 1, 2]) (maxLen_le (by decide))).next ((Below.refl _ _).alloc (Nat.le_refl _) (.cells #[.int .i64 2, .int .i64 1] 54))
    rw [World.size_alloc] at h0
    rw [← hW1]; exact h0
  have hin : LitIs Rep.msg W1 (.slice (some ⟨w3.heap.size + 1 + 1, 0, none⟩) 1 1) [(2, 1)] := by
    have h0 := LitIs.new (r := Rep.msg) (cells := [.int .i64 2, .int .i64 1]) ((w3.alloc (.cells #[.int .i64 2, .int .i64 2, .int .i64 0, .int .i64 4, .slice X3 1 x3, .slice X4 1 x4, .slice X5 1 x5] 32)).alloc (.cells #[.int .i64 3, .int .i64 1, .int .i64 2] 3)) 54 [(2, 1)] ⟨[_, _], [], rfl, rfl, rfl⟩ (maxLen_le (by decide))
    rw [World.size_alloc, World.size_alloc] at h0
    rw [← hW1]; exact h0
  replace hu := hu.next hb
  replace bx5 := bx5.next hb
  replace bx6 := bx6.next hb
  replace hB := hB.trans (hb.mono hB.size)
  clear hb hW1
  replace hu := hu.next ((Below.refl _ _).drew)
  replace bx5 := bx5.next ((Below.refl _ _).drew)
  replace bx6 := bx6.next ((Below.refl _ _).drew)
  replace hout := hout.next ((Below.refl _ _).drew)
  replace hin := hin.next ((Below.refl _ _).drew)
  replace hB := hB.drew
  have hE := Ext.refl (W1.drew)
  refine region_go 20561332431606647238033920 (by kernel_rfl) ?_
  obtain ⟨c0, c1, c2, c3, c4, c5, c6⟩ := seven_cells bx5
  refine wpAny_go 20561332431606647238033920 0 [0, 1, 2, 3, 4, 5, 6, 7, 8] 511 80 (by kernel_rfl) (by kernel_rfl) (fun _ _ _ _ _ h => h) (by kernel_rfl) (by rfl) (by rfl) (by kernel_rfl) ?_
  simp only [List.map_cons, List.map_nil, List.getD_cons_succ, List.getD_cons_zero]
  go_wp2_with fail
  change wpAnyM _ _ _ _ _ _ _ _ _ _
  clear c0 c1 c2 c3 c4 c5 c6
  refine wpAny_reads 20561332431606647238033920 511 [11] 2559 79 (by kernel_rfl) (by kernel_rfl) (fun _ _ _ _ _ h => h) (by kernel_rfl) (by rfl) (by rfl) (by kernel_rfl) ?_
  simp only [List.map_cons, List.map_nil, List.getD_cons_succ, List.getD_cons_zero]
  go_wp2_with fail
  change _ → wpAnyM _ _ _ _ _ _ _ _ _ _; intro _
  refine name_act fun A0 hA0 => ?_
  refine wpAny_blockM [9, 10, 12, 13, 14, 15, 16] 131071 (fun m a x => ∃ u9 u10 u12 u13 u14 u15 u16 : Value, a = (((((((A0).put (some 46) u9).put (some 47) u10).put (some 49) u12).put (some 50) u13).put (some 51) u14).put (some 52) u15).put (some 53) u16 ∧ Below (W1.drew).heap.size (W1.drew) x ∧ Held m 9 (u9 = .agg #[.int .i64 2, .int .i64 0, .int .i64 4, .slice X3 1 x3, .slice X4 1 x4, .slice X5 1 x5]) ∧ Held m 10 (LitIs Rep.int x u10 [1]) ∧ Held m 12 (LitIs Rep.msg x u12 [(1, 0)]) ∧ Held m 13 (LitIs Rep.msg.slice x u13 [[(1, 0)]]) ∧ Held m 14 (LitIs Rep.int x u14 [3]) ∧ Held m 15 (LitIs Rep.int.slice x u15 [[3]]) ∧ Held m 16 (PieceIs false x 0 x.heap.size u16 P1)) (by kernel_rfl) (by kernel_rfl) ?_ 72 ?_ 7 2559 _ _ (by kernel_rfl) ⟨A0.tmps.getD 46 undef, A0.tmps.getD 47 undef, A0.tmps.getD 49 undef, A0.tmps.getD 50 undef, A0.tmps.getD 51 undef, A0.tmps.getD 52 undef, A0.tmps.getD 53 undef, by rw [← hA0]; clear hA0; go_simp, Below.refl _ _, Held.none (by kernel_rfl), Held.none (by kernel_rfl), Held.none (by kernel_rfl), Held.none (by kernel_rfl), Held.none (by kernel_rfl), Held.none (by kernel_rfl), Held.none (by kernel_rfl)⟩
  · refine blockSteps_cons ?_ (blockSteps_cons ?_ (blockSteps_cons ?_ (blockSteps_cons ?_ (blockSteps_cons ?_ (blockSteps_cons ?_ (blockSteps_cons ?_ blockSteps_nil))))))
    · rintro m a x hd ⟨u9, u10, u12, u13, u14, u15, u16, ha, hx, h9, h10, h12, h13, h14, h15, h16⟩
      have hE' := hE.trans (Ext.below hx (Nat.le_refl _))
      replace hu := hu.next hx
      replace bx5 := bx5.next hx
      replace bx6 := bx6.next hx
      replace hout := hout.next hx
      replace hin := hin.next hx
      rw [ha, ← hA0]; clear ha hA0
      simp only [List.getD_cons_succ, List.getD_cons_zero]
      go_wp2_with fail
      refine (ref6_any _ _ _ _ _ _ _ _ _ _ _ _ x).mono ?_
      rintro e y ⟨rfl, hb⟩
      go_wp2_with fail
      replace h9 : Held (m ||| 2 ^ 9) 9 (((.agg #[.int .i64 2, .int .i64 0, .int .i64 4, .slice X3 1 x3, .slice X4 1 x4, .slice X5 1 x5]) : Value) = .agg #[.int .i64 2, .int .i64 0, .int .i64 4, .slice X3 1 x3, .slice X4 1 x4, .slice X5 1 x5]) := Held.now (rfl)
      replace h10 := h10.other (j := 9) (by decide) (fun h => h.next hb)
      replace h12 := h12.other (j := 9) (by decide) (fun h => h.next hb)
      replace h13 := h13.other (j := 9) (by decide) (fun h => h.next hb)
      replace h14 := h14.other (j := 9) (by decide) (fun h => h.next hb)
      replace h15 := h15.other (j := 9) (by decide) (fun h => h.next hb)
      replace h16 := h16.other (j := 9) (by decide) (fun h => h.next hb)
      replace hE' := hE'.trans (Ext.below hb (Nat.le_refl _))
      replace hx := hx.trans (hb.mono hx.size)
      refine And.intro (fun _ => hE') ?_
      refine ⟨(.agg #[.int .i64 2, .int .i64 0, .int .i64 4, .slice X3 1 x3, .slice X4 1 x4, .slice X5 1 x5]), u10, u12, u13, u14, u15, u16, ?_, hx, h9, h10, h12, h13, h14, h15, h16⟩
      go_simp
    · rintro m a x hd ⟨u9, u10, u12, u13, u14, u15, u16, ha, hx, h9, h10, h12, h13, h14, h15, h16⟩
      have hE' := hE.trans (Ext.below hx (Nat.le_refl _))
      replace hu := hu.next hx
      replace bx5 := bx5.next hx
      replace bx6 := bx6.next hx
      replace hout := hout.next hx
      replace hin := hin.next hx
      have hb : Below x.heap.size x (x.alloc (.cells #[.int .i64 1] 3)) := (Below.refl _ _).alloc (Nat.le_refl _) _
      replace h9 := h9.other (j := 10) (by decide) (fun h => h)
      replace h10 : Held (m ||| 2 ^ 10) 10 (LitIs Rep.int (x.alloc (.cells #[.int .i64 1] 3)) ((.slice (some ⟨x.heap.size, 0, none⟩) 1 1) : Value) [1]) := Held.now (LitIs.new (r := Rep.int) (cells := [.int .i64 1]) x 3 [1] (ints_all _ _ _ [1]) (maxLen_le (by decide)))
      replace h12 := h12.other (j := 10) (by decide) (fun h => h.next hb)
      replace h13 := h13.other (j := 10) (by decide) (fun h => h.next hb)
      replace h14 := h14.other (j := 10) (by decide) (fun h => h.next hb)
      replace h15 := h15.other (j := 10) (by decide) (fun h => h.next hb)
      replace h16 := h16.other (j := 10) (by decide) (fun h => h.next hb)
      replace hE' := hE'.trans (Ext.below hb (Nat.le_refl _))
      replace hx := hx.trans (hb.mono hx.size)
      rw [ha, ← hA0]; clear ha hA0
      simp only [List.getD_cons_succ, List.getD_cons_zero]
      go_wp2_with fail
      refine And.intro (fun _ => hE') ?_
      refine ⟨u9, (.slice (some ⟨x.heap.size, 0, none⟩) 1 1), u12, u13, u14, u15, u16, ?_, hx, h9, h10, h12, h13, h14, h15, h16⟩
      go_simp
    · rintro m a x hd ⟨u9, u10, u12, u13, u14, u15, u16, ha, hx, h9, h10, h12, h13, h14, h15, h16⟩
      have hE' := hE.trans (Ext.below hx (Nat.le_refl _))
      replace hu := hu.next hx
      replace bx5 := bx5.next hx
      replace bx6 := bx6.next hx
      replace hout := hout.next hx
      replace hin := hin.next hx
      have hb : Below x.heap.size x (x.alloc (.cells #[.int .i64 1, .int .i64 0] 54)) := (Below.refl _ _).alloc (Nat.le_refl _) _
      replace h9 := h9.other (j := 12) (by decide) (fun h => h)
      replace h10 := h10.other (j := 12) (by decide) (fun h => h.next hb)
      replace h12 : Held (m ||| 2 ^ 12) 12 (LitIs Rep.msg (x.alloc (.cells #[.int .i64 1, .int .i64 0] 54)) ((.slice (some ⟨x.heap.size, 0, none⟩) 1 1) : Value) [(1, 0)]) := Held.now (LitIs.new (r := Rep.msg) (cells := [.int .i64 1, .int .i64 0]) x 54 [(1, 0)] ⟨[_, _], [], rfl, rfl, rfl⟩ (maxLen_le (by decide)))
      replace h13 := h13.other (j := 12) (by decide) (fun h => h.next hb)
      replace h14 := h14.other (j := 12) (by decide) (fun h => h.next hb)
      replace h15 := h15.other (j := 12) (by decide) (fun h => h.next hb)
      replace h16 := h16.other (j := 12) (by decide) (fun h => h.next hb)
      replace hE' := hE'.trans (Ext.below hb (Nat.le_refl _))
      replace hx := hx.trans (hb.mono hx.size)
      rw [ha, ← hA0]; clear ha hA0
      simp only [List.getD_cons_succ, List.getD_cons_zero]
      go_wp2_with fail
      refine And.intro (fun _ => hE') ?_
      refine ⟨u9, u10, (.slice (some ⟨x.heap.size, 0, none⟩) 1 1), u13, u14, u15, u16, ?_, hx, h9, h10, h12, h13, h14, h15, h16⟩
      go_simp
    · rintro m a x hd ⟨u9, u10, u12, u13, u14, u15, u16, ha, hx, h9, h10, h12, h13, h14, h15, h16⟩
      have hE' := hE.trans (Ext.below hx (Nat.le_refl _))
      replace hu := hu.next hx
      replace bx5 := bx5.next hx
      replace bx6 := bx6.next hx
      replace hout := hout.next hx
      replace hin := hin.next hx
      have d12 := h12.get hd (by kernel_rfl)
      obtain ⟨g12, rfl, q12⟩ := id d12
      have hb : Below x.heap.size x (x.alloc (.cells #[.slice (some ⟨g12, 0, none⟩) 1 1] 24)) := (Below.refl _ _).alloc (Nat.le_refl _) _
      replace h9 := h9.other (j := 13) (by decide) (fun h => h)
      replace h10 := h10.other (j := 13) (by decide) (fun h => h.next hb)
      replace h12 := h12.other (j := 13) (by decide) (fun h => h.next hb)
      replace h13 : Held (m ||| 2 ^ 13) 13 (LitIs Rep.msg.slice (x.alloc (.cells #[.slice (some ⟨g12, 0, none⟩) 1 1] 24)) ((.slice (some ⟨x.heap.size, 0, none⟩) 1 1) : Value) [[(1, 0)]]) := Held.now (LitIs.new (r := Rep.msg.slice) (cells := [.slice (some ⟨g12, 0, none⟩) 1 1]) x 24 [[(1, 0)]] (LitIs.row (d12.next hb)) (maxLen_le (by decide)))
      replace h14 := h14.other (j := 13) (by decide) (fun h => h.next hb)
      replace h15 := h15.other (j := 13) (by decide) (fun h => h.next hb)
      replace h16 := h16.other (j := 13) (by decide) (fun h => h.next hb)
      replace hE' := hE'.trans (Ext.below hb (Nat.le_refl _))
      replace hx := hx.trans (hb.mono hx.size)
      rw [ha, ← hA0]; clear ha hA0
      simp only [List.getD_cons_succ, List.getD_cons_zero]
      go_wp2_with fail
      refine And.intro (fun _ => hE') ?_
      refine ⟨u9, u10, (.slice (some ⟨g12, 0, none⟩) 1 1), (.slice (some ⟨x.heap.size, 0, none⟩) 1 1), u14, u15, u16, ?_, hx, h9, h10, h12, h13, h14, h15, h16⟩
      go_simp
    · rintro m a x hd ⟨u9, u10, u12, u13, u14, u15, u16, ha, hx, h9, h10, h12, h13, h14, h15, h16⟩
      have hE' := hE.trans (Ext.below hx (Nat.le_refl _))
      replace hu := hu.next hx
      replace bx5 := bx5.next hx
      replace bx6 := bx6.next hx
      replace hout := hout.next hx
      replace hin := hin.next hx
      have hb : Below x.heap.size x (x.alloc (.cells #[.int .i64 3] 3)) := (Below.refl _ _).alloc (Nat.le_refl _) _
      replace h9 := h9.other (j := 14) (by decide) (fun h => h)
      replace h10 := h10.other (j := 14) (by decide) (fun h => h.next hb)
      replace h12 := h12.other (j := 14) (by decide) (fun h => h.next hb)
      replace h13 := h13.other (j := 14) (by decide) (fun h => h.next hb)
      replace h14 : Held (m ||| 2 ^ 14) 14 (LitIs Rep.int (x.alloc (.cells #[.int .i64 3] 3)) ((.slice (some ⟨x.heap.size, 0, none⟩) 1 1) : Value) [3]) := Held.now (LitIs.new (r := Rep.int) (cells := [.int .i64 3]) x 3 [3] (ints_all _ _ _ [3]) (maxLen_le (by decide)))
      replace h15 := h15.other (j := 14) (by decide) (fun h => h.next hb)
      replace h16 := h16.other (j := 14) (by decide) (fun h => h.next hb)
      replace hE' := hE'.trans (Ext.below hb (Nat.le_refl _))
      replace hx := hx.trans (hb.mono hx.size)
      rw [ha, ← hA0]; clear ha hA0
      simp only [List.getD_cons_succ, List.getD_cons_zero]
      go_wp2_with fail
      refine And.intro (fun _ => hE') ?_
      refine ⟨u9, u10, u12, u13, (.slice (some ⟨x.heap.size, 0, none⟩) 1 1), u15, u16, ?_, hx, h9, h10, h12, h13, h14, h15, h16⟩
      go_simp
    · rintro m a x hd ⟨u9, u10, u12, u13, u14, u15, u16, ha, hx, h9, h10, h12, h13, h14, h15, h16⟩
      have hE' := hE.trans (Ext.below hx (Nat.le_refl _))
      replace hu := hu.next hx
      replace bx5 := bx5.next hx
      replace bx6 := bx6.next hx
      replace hout := hout.next hx
      replace hin := hin.next hx
      have d14 := h14.get hd (by kernel_rfl)
      obtain ⟨g14, rfl, q14⟩ := id d14
      have hb : Below x.heap.size x (x.alloc (.cells #[.slice (some ⟨g14, 0, none⟩) 1 1] 23)) := (Below.refl _ _).alloc (Nat.le_refl _) _
      replace h9 := h9.other (j := 15) (by decide) (fun h => h)
      replace h10 := h10.other (j := 15) (by decide) (fun h => h.next hb)
      replace h12 := h12.other (j := 15) (by decide) (fun h => h.next hb)
      replace h13 := h13.other (j := 15) (by decide) (fun h => h.next hb)
      replace h14 := h14.other (j := 15) (by decide) (fun h => h.next hb)
      replace h15 : Held (m ||| 2 ^ 15) 15 (LitIs Rep.int.slice (x.alloc (.cells #[.slice (some ⟨g14, 0, none⟩) 1 1] 23)) ((.slice (some ⟨x.heap.size, 0, none⟩) 1 1) : Value) [[3]]) := Held.now (LitIs.new (r := Rep.int.slice) (cells := [.slice (some ⟨g14, 0, none⟩) 1 1]) x 23 [[3]] (LitIs.row (d14.next hb)) (maxLen_le (by decide)))
      replace h16 := h16.other (j := 15) (by decide) (fun h => h.next hb)
      replace hE' := hE'.trans (Ext.below hb (Nat.le_refl _))
      replace hx := hx.trans (hb.mono hx.size)
      rw [ha, ← hA0]; clear ha hA0
      simp only [List.getD_cons_succ, List.getD_cons_zero]
      go_wp2_with fail
      refine And.intro (fun _ => hE') ?_
      refine ⟨u9, u10, u12, u13, (.slice (some ⟨g14, 0, none⟩) 1 1), (.slice (some ⟨x.heap.size, 0, none⟩) 1 1), u16, ?_, hx, h9, h10, h12, h13, h14, h15, h16⟩
      go_simp
    · rintro m a x hd ⟨u9, u10, u12, u13, u14, u15, u16, ha, hx, h9, h10, h12, h13, h14, h15, h16⟩
      have hE' := hE.trans (Ext.below hx (Nat.le_refl _))
      replace hu := hu.next hx
      replace bx5 := bx5.next hx
      replace bx6 := bx6.next hx
      replace hout := hout.next hx
      replace hin := hin.next hx
      have d10 := h10.get hd (by kernel_rfl)
      have d13 := h13.get hd (by kernel_rfl)
      have d15 := h15.get hd (by kernel_rfl)
      obtain ⟨g10, rfl, q10⟩ := d10
      obtain ⟨g13, rfl, q13⟩ := d13
      obtain ⟨g15, rfl, q15⟩ := d15
      have hpl : PieceIs false x 0 x.heap.size (.agg #[.int .i64 2, .int .i64 0, .int .i64 4, .slice (some ⟨g10, 0, none⟩) 1 1, .slice (some ⟨g13, 0, none⟩) 1 1, .slice (some ⟨g15, 0, none⟩) 1 1]) P1 := ⟨_, _, _, rfl, q10.soft, q13.soft, q15.soft⟩
      clear q10 q13 q15
      have hb := Below.refl x.heap.size x
      replace h9 := h9.other (j := 16) (by decide) (fun h => h)
      replace h10 := h10.other (j := 16) (by decide) (fun h => h.next hb)
      replace h12 := h12.other (j := 16) (by decide) (fun h => h.next hb)
      replace h13 := h13.other (j := 16) (by decide) (fun h => h.next hb)
      replace h14 := h14.other (j := 16) (by decide) (fun h => h.next hb)
      replace h15 := h15.other (j := 16) (by decide) (fun h => h.next hb)
      replace h16 : Held (m ||| 2 ^ 16) 16 (PieceIs false x 0 x.heap.size ((.agg #[.int .i64 2, .int .i64 0, .int .i64 4, .slice (some ⟨g10, 0, none⟩) 1 1, .slice (some ⟨g13, 0, none⟩) 1 1, .slice (some ⟨g15, 0, none⟩) 1 1]) : Value) P1) := Held.now (hpl)
      replace hE' := hE'.trans (Ext.below hb (Nat.le_refl _))
      replace hx := hx.trans (hb.mono hx.size)
      rw [ha, ← hA0]; clear ha hA0
      simp only [List.getD_cons_succ, List.getD_cons_zero]
      go_wp2_with fail
      refine And.intro (fun _ => hE') ?_
      refine ⟨u9, (.slice (some ⟨g10, 0, none⟩) 1 1), u12, (.slice (some ⟨g13, 0, none⟩) 1 1), u14, (.slice (some ⟨g15, 0, none⟩) 1 1), (.agg #[.int .i64 2, .int .i64 0, .int .i64 4, .slice (some ⟨g10, 0, none⟩) 1 1, .slice (some ⟨g13, 0, none⟩) 1 1, .slice (some ⟨g15, 0, none⟩) 1 1]), ?_, hx, h9, h10, h12, h13, h14, h15, h16⟩
      go_simp
  · rintro a w4 ⟨u9, u10, u12, u13, u14, u15, u16, ha, hb, h9, h10, h12, h13, h14, h15, h16⟩
    have h9 := h9.done (by kernel_rfl)
    have h10 := h10.done (by kernel_rfl)
    have h12 := h12.done (by kernel_rfl)
    have h13 := h13.done (by kernel_rfl)
    have h14 := h14.done (by kernel_rfl)
    have h15 := h15.done (by kernel_rfl)
    have h16 := h16.done (by kernel_rfl)
    replace hu := hu.next hb
    replace bx5 := bx5.next hb
    replace bx6 := bx6.next hb
    replace hout := hout.next hb
    replace hin := hin.next hb
    replace hE := hE.trans (Ext.below hb (Nat.le_refl _))
    replace hB := hB.trans (hb.mono hB.size)
    clear hb
    subst h9
    clear h10 h12 h13 h14 h15
    have hpl := h16
    clear h16
    rw [ha, ← hA0]; clear ha hA0
    refine wpAny_oneM 17 262143 (by kernel_rfl) (by kernel_rfl) (of_decide_eq_true (by kernel_rfl)) (by rfl) ?_
    simp only [List.getD_cons_succ, List.getD_cons_zero]
    go_wp2_with fail
    refine (rsameq (b := true) (HueIs.piece hu) hpl (by decide)).mono ?_
    rintro e w5 ⟨rfl, hb⟩
    replace hu := hu.next hb
    replace bx5 := bx5.next hb
    replace bx6 := bx6.next hb
    replace hout := hout.next hb
    replace hin := hin.next hb
    replace hE := hE.trans (Ext.below hb (Nat.le_refl _))
    replace hB := hB.trans (hb.mono hB.size)
    clear hb
    clear hpl
    go_wp2_with fail
    refine ⟨fun _ => hE, ?_⟩
    obtain ⟨c0, c1, c2, c3, c4, c5, c6⟩ := seven_cells bx6
    refine wpAny_go 20561332431606647238033920 262143 [18, 19, 20] 2097151 68 (by kernel_rfl) (by kernel_rfl) (fun _ _ _ _ _ h => h) (by kernel_rfl) (by rfl) (by rfl) (by kernel_rfl) ?_
    simp only [List.map_cons, List.map_nil, List.getD_cons_succ, List.getD_cons_zero]
    go_wp2_with fail
    change wpAnyM _ _ _ _ _ _ _ _ _ _
    clear c0 c1 c2 c3 c4 c5 c6
    obtain ⟨c0, c1, c2, c3, c4, c5, c6⟩ := seven_cells bx5
    refine wpAnyM_rebase hE _ _ _ _ ?_
    clear hE
    have hE := Ext.refl w5
    refine wpAny_reads 20561332431606647238033920 2097151 [22] 6291455 67 (by kernel_rfl) (by kernel_rfl) (fun _ _ _ _ _ h => h) (by kernel_rfl) (by rfl) (by rfl) (by kernel_rfl) ?_
    simp only [List.map_cons, List.map_nil, List.getD_cons_succ, List.getD_cons_zero]
    go_wp2_with fail
    change _ → wpAnyM _ _ _ _ _ _ _ _ _ _; intro _
    clear c0 c1 c2 c3 c4 c5 c6
    refine wpAny_oneM 21 8388607 (by kernel_rfl) (by kernel_rfl) (of_decide_eq_true (by kernel_rfl)) (by rfl) ?_
    simp only [List.getD_cons_succ, List.getD_cons_zero]
    go_wp2_with fail
    refine (hueRefq hu).mono ?_
    rintro e w6 ⟨rfl, hb⟩
    replace hu := hu.next hb
    replace bx5 := bx5.next hb
    replace bx6 := bx6.next hb
    replace hout := hout.next hb
    replace hin := hin.next hb
    replace hE := hE.trans (Ext.below hb (Nat.le_refl _))
    replace hB := hB.trans (hb.mono hB.size)
    clear hb
    go_wp2_with fail
    refine ⟨fun _ => hE, ?_⟩
    refine wpAny_oneM 23 16777215 (by kernel_rfl) (by kernel_rfl) (of_decide_eq_true (by kernel_rfl)) (by rfl) ?_
    simp only [List.getD_cons_succ, List.getD_cons_zero]
    go_wp2_with fail
    refine (hueRefq hu).mono ?_
    rintro e w7 ⟨rfl, hb⟩
    replace hu := hu.next hb
    replace bx5 := bx5.next hb
    replace bx6 := bx6.next hb
    replace hout := hout.next hb
    replace hin := hin.next hb
    replace hE := hE.trans (Ext.below hb (Nat.le_refl _))
    replace hB := hB.trans (hb.mono hB.size)
    clear hb
    go_wp2_with fail
    refine ⟨fun _ => hE, ?_⟩
    refine wpAny_oneM 24 33554431 (by kernel_rfl) (by kernel_rfl) (of_decide_eq_true (by kernel_rfl)) (by rfl) ?_
    simp only [List.getD_cons_succ, List.getD_cons_zero]
    go_wp2_with fail
    refine (hsameq (n := 1) hu hu (by decide)).mono ?_
    rintro e w8 ⟨rfl, hb⟩
    replace hu := hu.next hb
    replace bx5 := bx5.next hb
    replace bx6 := bx6.next hb
    replace hout := hout.next hb
    replace hin := hin.next hb
    replace hE := hE.trans (Ext.below hb (Nat.le_refl _))
    replace hB := hB.trans (hb.mono hB.size)
    clear hb
    go_wp2_with fail
    refine ⟨fun _ => hE, ?_⟩
    obtain ⟨c0, c1, c2, c3, c4, c5, c6⟩ := seven_cells bx5
    refine wpAny_go 20561332431606647238033920 33554431 [25, 26, 27, 28, 29, 30, 31, 32, 33, 34, 35, 36] 137438953471 52 (by kernel_rfl) (by kernel_rfl) (fun _ _ _ _ _ h => h) (by kernel_rfl) (by rfl) (by rfl) (by kernel_rfl) ?_
    simp only [List.map_cons, List.map_nil, List.getD_cons_succ, List.getD_cons_zero]
    go_wp2_with fail
    change wpAnyM _ _ _ _ _ _ _ _ _ _
    clear c0 c1 c2 c3 c4 c5 c6
    refine wpAny_oneM 37 274877906943 (by kernel_rfl) (by kernel_rfl) (of_decide_eq_true (by kernel_rfl)) (by rfl) ?_
    simp only [List.getD_cons_succ, List.getD_cons_zero]
    go_wp2_with fail
    refine (doneq (b := true) hu (by decide)).mono ?_
    rintro e w9 ⟨rfl, hb⟩
    replace hu := hu.next hb
    replace bx5 := bx5.next hb
    replace bx6 := bx6.next hb
    replace hout := hout.next hb
    replace hin := hin.next hb
    replace hE := hE.trans (Ext.below hb (Nat.le_refl _))
    replace hB := hB.trans (hb.mono hB.size)
    clear hb
    go_wp2_with fail
    refine ⟨fun _ => hE, ?_⟩
    obtain ⟨c0, c1, c2, c3, c4, c5, c6⟩ := seven_cells bx5
    refine wpAny_go 20561332431606647238033920 274877906943 [38, 39, 40] 2199023255551 48 (by kernel_rfl) (by kernel_rfl) (fun _ _ _ _ _ h => h) (by kernel_rfl) (by rfl) (by rfl) (by kernel_rfl) ?_
    simp only [List.map_cons, List.map_nil, List.getD_cons_succ, List.getD_cons_zero]
    go_wp2_with fail
    change wpAnyM _ _ _ _ _ _ _ _ _ _
    clear c0 c1 c2 c3 c4 c5 c6
    refine wpAny_oneM 41 4398046511103 (by kernel_rfl) (by kernel_rfl) (of_decide_eq_true (by kernel_rfl)) (by rfl) ?_
    simp only [List.getD_cons_succ, List.getD_cons_zero]
    go_wp2_with fail
    refine (doneq (b := true) hu (by decide)).mono ?_
    rintro e w10 ⟨rfl, hb⟩
    replace hu := hu.next hb
    replace bx5 := bx5.next hb
    replace bx6 := bx6.next hb
    replace hout := hout.next hb
    replace hin := hin.next hb
    replace hE := hE.trans (Ext.below hb (Nat.le_refl _))
    replace hB := hB.trans (hb.mono hB.size)
    clear hb
    go_wp2_with fail
    refine ⟨fun _ => hE, ?_⟩
    obtain ⟨c0, c1, c2, c3, c4, c5, c6⟩ := seven_cells bx5
    refine wpAny_go 20561332431606647238033920 4398046511103 [42, 43, 44] 35184372088831 44 (by kernel_rfl) (by kernel_rfl) (fun _ _ _ _ _ h => h) (by kernel_rfl) (by rfl) (by rfl) (by kernel_rfl) ?_
    simp only [List.map_cons, List.map_nil, List.getD_cons_succ, List.getD_cons_zero]
    go_wp2_with fail
    change wpAnyM _ _ _ _ _ _ _ _ _ _
    clear c0 c1 c2 c3 c4 c5 c6
    refine wpAny_oneM 45 70368744177663 (by kernel_rfl) (by kernel_rfl) (of_decide_eq_true (by kernel_rfl)) (by rfl) ?_
    simp only [List.getD_cons_succ, List.getD_cons_zero]
    go_wp2_with fail
    refine (doneq (b := false) hu (by decide)).mono ?_
    rintro e w11 ⟨rfl, hb⟩
    replace hu := hu.next hb
    replace bx5 := bx5.next hb
    replace bx6 := bx6.next hb
    replace hout := hout.next hb
    replace hin := hin.next hb
    replace hE := hE.trans (Ext.below hb (Nat.le_refl _))
    replace hB := hB.trans (hb.mono hB.size)
    clear hb
    go_wp2_with fail
    refine ⟨fun _ => hE, ?_⟩
    refine wpAny_go 20561332431606647238033920 70368744177663 [46, 47, 48, 49, 50] 2251799813685247 38 (by kernel_rfl) (by kernel_rfl) (fun _ _ _ _ _ h => h) (by kernel_rfl) (by rfl) (by rfl) (by kernel_rfl) ?_
    simp only [List.map_cons, List.map_nil, List.getD_cons_succ, List.getD_cons_zero]
    go_wp2_with fail
    change wpAnyM _ _ _ _ _ _ _ _ _ _
    refine wpAnyM_rebase hE _ _ _ _ ?_
    clear hE
    have hE := Ext.refl w11
    refine wpAny_reads 20561332431606647238033920 2251799813685247 [52, 53] 15762598695796735 36 (by kernel_rfl) (by kernel_rfl) (fun _ _ _ _ _ h => h) (by kernel_rfl) (by rfl) (by rfl) (by kernel_rfl) ?_
    simp only [List.map_cons, List.map_nil, List.getD_cons_succ, List.getD_cons_zero]
    go_wp2_with fail
    change _ → wpAnyM _ _ _ _ _ _ _ _ _ _; intro _
    refine name_act fun A0 hA0 => ?_
    refine wpAny_blockM [51, 54] 36028797018963967 (fun m a x => ∃ u51 u54 : Value, a = ((A0).put (some 88) u51).put (some 91) u54 ∧ Below w11.heap.size w11 x ∧ Held m 51 (GotIs Rep.msg x u51 [(1, 3), (3, 2)]) ∧ Held m 54 (LitIs Rep.msg x u54 [(1, 3), (3, 2)])) (by kernel_rfl) (by kernel_rfl) ?_ 34 ?_ 2 15762598695796735 _ _ (by kernel_rfl) ⟨A0.tmps.getD 88 undef, A0.tmps.getD 91 undef, by rw [← hA0]; clear hA0; go_simp, Below.refl _ _, Held.none (by kernel_rfl), Held.none (by kernel_rfl)⟩
    · refine blockSteps_cons ?_ (blockSteps_cons ?_ blockSteps_nil)
      · rintro m a x hd ⟨u51, u54, ha, hx, h51, h54⟩
        have hE' := hE.trans (Ext.below hx (Nat.le_refl _))
        replace hu := hu.next hx
        replace bx5 := bx5.next hx
        replace bx6 := bx6.next hx
        replace hout := hout.next hx
        replace hin := hin.next hx
        rw [ha, ← hA0]; clear ha hA0
        simp only [List.getD_cons_succ, List.getD_cons_zero]
        go_wp2_with fail
        refine (restq (w := x) (r := [(1, 3), (3, 2)]) hout.soft hin.soft (by decide) (by decide) (wf_small (by decide)) (by decide)).mono ?_
        rintro e y ⟨⟨A, c, rfl, hc, hr⟩, hb⟩
        go_wp2_with fail
        replace h51 : Held (m ||| 2 ^ 51) 51 (GotIs Rep.msg y ((.slice A 2 c) : Value) [(1, 3), (3, 2)]) := Held.now (GotIs.of hr hc)
        replace h54 := h54.other (j := 51) (by decide) (fun h => h.next hb)
        replace hE' := hE'.trans (Ext.below hb (Nat.le_refl _))
        replace hx := hx.trans (hb.mono hx.size)
        refine And.intro (fun _ => hE') ?_
        refine ⟨(.slice A 2 c), u54, ?_, hx, h51, h54⟩
        go_simp
      · rintro m a x hd ⟨u51, u54, ha, hx, h51, h54⟩
        have hE' := hE.trans (Ext.below hx (Nat.le_refl _))
        replace hu := hu.next hx
        replace bx5 := bx5.next hx
        replace bx6 := bx6.next hx
        replace hout := hout.next hx
        replace hin := hin.next hx
        have hb : Below x.heap.size x (x.alloc (.cells #[.int .i64 1, .int .i64 3, .int .i64 3, .int .i64 2] 54)) := (Below.refl _ _).alloc (Nat.le_refl _) _
        replace h51 := h51.other (j := 54) (by decide) (fun h => h.next hb)
        replace h54 : Held (m ||| 2 ^ 54) 54 (LitIs Rep.msg (x.alloc (.cells #[.int .i64 1, .int .i64 3, .int .i64 3, .int .i64 2] 54)) ((.slice (some ⟨x.heap.size, 0, none⟩) 2 2) : Value) [(1, 3), (3, 2)]) := Held.now (LitIs.new (r := Rep.msg) (cells := [.int .i64 1, .int .i64 3, .int .i64 3, .int .i64 2]) x 54 [(1, 3), (3, 2)] ⟨[_, _], [_, _], rfl, rfl, [_, _], [], rfl, rfl, rfl⟩ (maxLen_le (by decide)))
        replace hE' := hE'.trans (Ext.below hb (Nat.le_refl _))
        replace hx := hx.trans (hb.mono hx.size)
        rw [ha, ← hA0]; clear ha hA0
        simp only [List.getD_cons_succ, List.getD_cons_zero]
        go_wp2_with fail
        refine And.intro (fun _ => hE') ?_
        refine ⟨u51, (.slice (some ⟨x.heap.size, 0, none⟩) 2 2), ?_, hx, h51, h54⟩
        go_simp
    · rintro a w12 ⟨u51, u54, ha, hb, h51, h54⟩
      have h51 := h51.done (by kernel_rfl)
      have h54 := h54.done (by kernel_rfl)
      replace hu := hu.next hb
      replace bx5 := bx5.next hb
      replace bx6 := bx6.next hb
      replace hout := hout.next hb
      replace hin := hin.next hb
      replace hE := hE.trans (Ext.below hb (Nat.le_refl _))
      replace hB := hB.trans (hb.mono hB.size)
      clear hb
      obtain ⟨A51, c51, rfl, m51, q51⟩ := h51
      obtain ⟨g54, rfl, q54⟩ := h54
      unfold maxLen at m51
      rw [ha, ← hA0]; clear ha hA0
      refine wpAny_oneM 55 72057594037927935 (by kernel_rfl) (by kernel_rfl) (of_decide_eq_true (by kernel_rfl)) (by rfl) ?_
      simp only [List.getD_cons_succ, List.getD_cons_zero]
      go_wp2_with fail
      refine (msgsq (b := true) q51.soft q54.soft (by decide)).mono ?_
      rintro e w13 ⟨rfl, hb⟩
      replace hu := hu.next hb
      replace bx5 := bx5.next hb
      replace bx6 := bx6.next hb
      replace hout := hout.next hb
      replace hin := hin.next hb
      replace hE := hE.trans (Ext.below hb (Nat.le_refl _))
      replace hB := hB.trans (hb.mono hB.size)
      clear hb
      clear q51 q54
      go_wp2_with fail
      refine ⟨fun _ => hE, ?_⟩
      refine wpAny_go 20561332431606647238033920 72057594037927935 [56, 57, 58, 59] 1152921504606846975 29 (by kernel_rfl) (by kernel_rfl) (fun _ _ _ _ _ h => h) (by kernel_rfl) (by rfl) (by rfl) (by kernel_rfl) ?_
      simp only [List.map_cons, List.map_nil, List.getD_cons_succ, List.getD_cons_zero]
      go_wp2_with fail
      change wpAnyM _ _ _ _ _ _ _ _ _ _
      refine wpAny_oneM 60 2305843009213693951 (by kernel_rfl) (by kernel_rfl) (of_decide_eq_true (by kernel_rfl)) (by rfl) ?_
      simp only [List.getD_cons_succ, List.getD_cons_zero]
      go_wp2_with fail
      refine (mixedq (b := false) hout.soft hin.soft (by decide) (by decide) (wf_small (by decide)) (by decide)).mono ?_
      rintro e w14 ⟨rfl, hb⟩
      replace hu := hu.next hb
      replace bx5 := bx5.next hb
      replace bx6 := bx6.next hb
      replace hout := hout.next hb
      replace hin := hin.next hb
      replace hE := hE.trans (Ext.below hb (Nat.le_refl _))
      replace hB := hB.trans (hb.mono hB.size)
      clear hb
      go_wp2_with fail
      refine ⟨fun _ => hE, ?_⟩
      refine wpAny_go 20561332431606647238033920 2305843009213693951 [61, 62, 63, 64, 65, 66] 147573952589676412927 22 (by kernel_rfl) (by kernel_rfl) (fun _ _ _ _ _ h => h) (by kernel_rfl) (by rfl) (by rfl) (by kernel_rfl) ?_
      simp only [List.map_cons, List.map_nil, List.getD_cons_succ, List.getD_cons_zero]
      go_wp2_with fail
      change wpAnyM _ _ _ _ _ _ _ _ _ _
      refine wpAny_oneM 67 295147905179352825855 (by kernel_rfl) (by kernel_rfl) (of_decide_eq_true (by kernel_rfl)) (by rfl) ?_
      simp only [List.getD_cons_succ, List.getD_cons_zero]
      go_wp2_with fail
      refine name_call fun V hV => ?_
      have hbV : Below w14.heap.size w14 V := hV ▸ (Below.refl _ _).alloc (Nat.le_refl _) _
      have hl := LitIs.new (r := Rep.msg) (cells := [.int .i64 2, .int .i64 0]) w14 54 [(2, 0)] ⟨[_, _], [], rfl, rfl, rfl⟩ (maxLen_le (by decide))
      rw [hV] at hl
      clear hV
      refine (mixedq (w := V) (b := true) (hout.next hbV).soft hl.soft (by decide) (by decide) (wf_small (by decide)) (by decide)).mono ?_
      rintro e w15 ⟨rfl, hb⟩
      replace hb := hbV.trans (hb.mono hbV.size)
      clear hl hbV
      go_wp2_with fail
      replace hu := hu.next hb
      replace bx5 := bx5.next hb
      replace bx6 := bx6.next hb
      replace hout := hout.next hb
      replace hin := hin.next hb
      replace hE := hE.trans (Ext.below hb (Nat.le_refl _))
      replace hB := hB.trans (hb.mono hB.size)
      clear hb
      refine ⟨fun _ => hE, ?_⟩
      refine wpAny_go 20561332431606647238033920 295147905179352825855 [68, 69, 70, 71, 72] 9444732965739290427391 16 (by kernel_rfl) (by kernel_rfl) (fun _ _ _ _ _ h => h) (by kernel_rfl) (by rfl) (by rfl) (by kernel_rfl) ?_
      simp only [List.map_cons, List.map_nil, List.getD_cons_succ, List.getD_cons_zero]
      go_wp2_with fail
      change wpAnyM _ _ _ _ _ _ _ _ _ _
      refine wpAny_oneM 73 18889465931478580854783 (by kernel_rfl) (by kernel_rfl) (of_decide_eq_true (by kernel_rfl)) (by rfl) ?_
      simp only [List.getD_cons_succ, List.getD_cons_zero]
      go_wp2_with fail
      refine name_call fun V hV => ?_
      have hbV : Below w15.heap.size w15 V := hV ▸ (Below.refl _ _).alloc (Nat.le_refl _) _
      have hl := LitIs.new (r := Rep.msg) (cells := [.int .i64 4, .int .i64 1]) w15 54 [(4, 1)] ⟨[_, _], [], rfl, rfl, rfl⟩ (maxLen_le (by decide))
      rw [hV] at hl
      clear hV
      refine (mixedq (w := V) (b := true) (hout.next hbV).soft hl.soft (by decide) (by decide) (wf_small (by decide)) (by decide)).mono ?_
      rintro e w16 ⟨rfl, hb⟩
      replace hb := hbV.trans (hb.mono hbV.size)
      clear hl hbV
      go_wp2_with fail
      replace hu := hu.next hb
      replace bx5 := bx5.next hb
      replace bx6 := bx6.next hb
      replace hout := hout.next hb
      replace hin := hin.next hb
      replace hE := hE.trans (Ext.below hb (Nat.le_refl _))
      replace hB := hB.trans (hb.mono hB.size)
      clear hb
      refine ⟨fun _ => hE, ?_⟩
      refine wpAny_go 20561332431606647238033920 18889465931478580854783 [74, 75, 76, 77, 78, 79] 1208925819614629174706175 9 (by kernel_rfl) (by kernel_rfl) (fun _ _ _ _ _ h => h) (by kernel_rfl) (by rfl) (by rfl) (by kernel_rfl) ?_
      simp only [List.map_cons, List.map_nil, List.getD_cons_succ, List.getD_cons_zero]
      go_wp2_with fail
      change wpAnyM _ _ _ _ _ _ _ _ _ _
      refine wpAny_oneM 80 2417851639229258349412351 (by kernel_rfl) (by kernel_rfl) (of_decide_eq_true (by kernel_rfl)) (by rfl) ?_
      simp only [List.getD_cons_succ, List.getD_cons_zero]
      go_wp2_with fail
      refine name_call fun V hV => ?_
      have hbV : Below w16.heap.size w16 V := hV ▸ (Below.refl _ _).alloc (Nat.le_refl _) _
      have hl := LitIs.new (r := Rep.msg) (cells := [.int .i64 2, .int .i64 1, .int .i64 2, .int .i64 1]) w16 54 [(2, 1), (2, 1)] ⟨[_, _], [_, _], rfl, rfl, [_, _], [], rfl, rfl, rfl⟩ (maxLen_le (by decide))
      rw [hV] at hl
      clear hV
      refine (mixedq (w := V) (b := true) (hout.next hbV).soft hl.soft (by decide) (by decide) (wf_small (by decide)) (by decide)).mono ?_
      rintro e w17 ⟨rfl, hb⟩
      replace hb := hbV.trans (hb.mono hbV.size)
      clear hl hbV
      go_wp2_with fail
      replace hu := hu.next hb
      replace bx5 := bx5.next hb
      replace bx6 := bx6.next hb
      replace hout := hout.next hb
      replace hin := hin.next hb
      replace hE := hE.trans (Ext.below hb (Nat.le_refl _))
      replace hB := hB.trans (hb.mono hB.size)
      clear hb
      refine ⟨fun _ => hE, ?_⟩
      refine wpAny_go 20561332431606647238033920 2417851639229258349412351 [81, 82, 83] 19342813113834066795298815 5 (by kernel_rfl) (by kernel_rfl) (fun _ _ _ _ _ h => h) (by kernel_rfl) (by rfl) (by rfl) (by kernel_rfl) ?_
      simp only [List.map_cons, List.map_nil, List.getD_cons_succ, List.getD_cons_zero]
      go_wp2_with fail
      change wpAnyM _ _ _ _ _ _ _ _ _ _
      refine wpAny_oneM 84 38685626227668133590597631 (by kernel_rfl) (by kernel_rfl) (of_decide_eq_true (by kernel_rfl)) (by rfl) ?_
      simp only [List.getD_cons_succ, List.getD_cons_zero]
      go_wp2_with fail
      refine (restq (r := []) (out := []) SliceIs.none_ hin.soft (by decide) (by decide) (wf_small (by decide)) (by decide)).mono ?_
      rintro e w18 ⟨⟨A84, c84, rfl, m84, q84⟩, hb⟩
      replace hu := hu.next hb
      replace bx5 := bx5.next hb
      replace bx6 := bx6.next hb
      replace hout := hout.next hb
      replace hin := hin.next hb
      replace hE := hE.trans (Ext.below hb (Nat.le_refl _))
      replace hB := hB.trans (hb.mono hB.size)
      clear hb
      clear q84
      go_wp2_with fail
      refine ⟨fun _ => hE, ?_⟩
      refine wpAny_go 20561332431606647238033920 38685626227668133590597631 [85, 86, 87, 88] 618970019642690137449562111 0 (by kernel_rfl) (by kernel_rfl) (fun _ _ _ _ _ h => h) (by kernel_rfl) (by rfl) (by rfl) (by kernel_rfl) ?_
      simp only [List.map_cons, List.map_nil, List.getD_cons_succ, List.getD_cons_zero]
      go_wp2_with fail
      change wpAnyM _ _ _ _ _ _ _ _ _ _
      refine wpAny_endM (by kernel_rfl) (by kernel_rfl) ?_
      go_wp2_with fail
      go_ret
      exact ⟨rfl, hB⟩
end Go.Proofs.Ytmbilaepeekglaa
