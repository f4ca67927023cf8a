/- piece.Decode: its closures. -/
import Derived.Test.YtdfgnmdofjhnkaaPH
import Derived.Test.YtdfgnmdofjhnkaaPRd
import Derived.Deep.RegionHeld3
namespace Go.Proofs.Ytdfgnmdofjhnkaa
open Go.RowKit

/-- Block g holds the numbers that are left. -/
def Rdr (g lo : Nat) (w : World) (l : List Int) : Prop := ∃ v, w.heap[g]? = some (.cells #[v] 22 (0, 0)) ∧ SliceIs Rep.int false w lo g v l

theorem grown_set {w : World} {g : Nat} (u : Value) : w.grownBy (w.setCell ⟨g, 0, none⟩ u) (some g) :=
  ⟨rfl, rfl, rfl, by simp [World.setCell], fun k hk hne => heap_setCell_other _ _ _ _ (by rintro rfl; exact hne rfl)⟩
theorem Rdr.far {g lo : Nat} {w w' : World} {l : List Int} (h : Rdr g lo w l) (hb : ∀ b, b ≤ g → w'.heap[b]? = w.heap[b]?) : Rdr g lo w' l := by
  obtain ⟨v, h1, h2⟩ := h
  exact ⟨v, (hb g (Nat.le_refl _)).trans h1, h2.keep fun b _ hb2 => hb b (by omega)⟩
theorem Rdr.below {g lo B : Nat} {w w' : World} {l : List Int} (h : Rdr g lo w l) (hb : Below B w w') (hB : g < B) : Rdr g lo w' l := h.far fun b h2 => hb.block b (by omega)
theorem Rdr.lt {g lo : Nat} {w : World} {l : List Int} (h : Rdr g lo w l) : g < w.heap.size := by
  obtain ⟨v, h1, _⟩ := h; exact lt_of_block h1

theorem slice_next {A : Option Addr} {w : World} {x : Int} {lo hi : Nat} {l : List Int} {c : Nat} (h : SliceAt Rep.int false w lo hi A (x :: l)) (hl : l.length + 1 ≤ c) (hc : c ≤ maxLen) (g o : Nat) (hA : A = some ⟨g, o, none⟩) :
    SliceIs Rep.int false w lo hi (.slice (if c = 1 then some ⟨g, o, none⟩ else some ⟨g, o + 1, none⟩) l.length (c - 1)) l := by
  subst hA
  refine ⟨_, _, rfl, by omega, by omega, ?_⟩
  obtain ⟨cells, h1, h2⟩ := h
  refine ⟨ints l, ints_all _ _ _ _, fun hn => ?_⟩
  obtain ⟨g', o', he, h3, h5⟩ := h2 (by simp)
  injection he with he
  injection he with he1 he2
  subst he1 he2
  have e1 := all_ints h1
  rw [if_neg (by omega)]
  refine ⟨g, o + 1, rfl, h3, fun j u hj => ?_⟩
  have := h5 (j + 1) u (by rw [e1]; simpa [ints] using hj)
  rwa [show o + 1 + j = o + (j + 1) from by omega]

set_option maxRecDepth 100000 in
set_option maxHeartbeats 2000000 in
theorem next_any' (g lo : Nat) (l : List Int) (w : World) (h : Rdr g lo w l) : Calls Try.prog 46 #[.pointer (some ⟨g, 0, none⟩)] w
    fun x w' => x = .returned (.int .i64 (Pc.nx l).1) ∧ Rdr g lo w' (Pc.nx l).2 ∧ w.grownBy w' (some g) := by
  obtain ⟨v, h1, A, c, rfl, hl, hc, hA⟩ := h
  have c0 := cell_of_one h1
  have f0 := free_of_one h1
  have H1 := Lib.hid h1; clear h1
  unfold maxLen at hc
  cases l with
  | nil =>
    go_enter Try.func46, Try.ntmps46
    go_wp2_with fail
    go_ret
    exact ⟨rfl, ⟨_, H1.out, A, c, rfl, hl, by unfold maxLen; omega, hA⟩, World.grownBy.refl _ _⟩
  | cons x t =>
    obtain ⟨gx, ox, rfl, _, hgx, d0⟩ := hA.int (k := 0) (x := x) rfl
    rw [Nat.add_zero] at d0
    have hS := slice_next hA (by simpa using hl) (by unfold maxLen; omega) gx ox rfl
    have hl' : t.length + 1 ≤ c := by simpa using hl
    have key : ∀ u : Value, SliceIs Rep.int false w lo g u t → Rdr g lo (w.setCell ⟨g, 0, none⟩ u) t ∧ w.grownBy (w.setCell ⟨g, 0, none⟩ u) (some g) := fun u hu =>
      ⟨⟨u, one_setCell H1.out, hu.keep fun b _ hb => heap_setCell_other _ _ _ _ (by simp; omega)⟩, grown_set u⟩
    have KEY := Lib.hid key; clear key hA
    by_cases hc1 : c = 1
    · subst hc1
      obtain rfl : t = [] := List.eq_nil_of_length_eq_zero (by omega)
      rw [if_pos rfl] at hS
      have HS := Lib.hid hS; clear hS
      go_enter Try.func46, Try.ntmps46
      go_wp2_with fail
      go_ret
      exact ⟨rfl, KEY.out _ HS.out⟩
    · rw [if_neg hc1] at hS
      have HS := Lib.hid hS; clear hS
      go_enter Try.func46, Try.ntmps46
      go_wp2_with fail
      go_ret
      exact ⟨rfl, KEY.out _ HS.out⟩

/-- What a reading step leaves: the rest in block g; nothing else has turned. -/
structure Step (g lo : Nat) (w w' : World) (l : List Int) : Prop where
  rdr : Rdr g lo w' l
  only : w.grownBy w' (some g)

theorem grown_cell {w w' : World} {g b : Nat} {o : Obj} (h : w.grownBy w' (some g)) (hb : w.heap[b]? = some o) (hne : b ≠ g) : w'.heap[b]? = some o :=
  (h.block b (by rcases Nat.lt_or_ge b w.heap.size with h1 | h1; exact h1; simp [Array.getElem?_eq_none h1] at hb) (by intro e; injection e with e; exact hne e)).trans hb
theorem grown_trans {a b c : World} {row : Option Nat} (h : a.grownBy b row) (h2 : b.grownBy c row) : a.grownBy c row :=
  ⟨h2.os.trans h.os, h2.tape.trans h.tape, h2.output.trans h.output, Nat.le_trans h.size h2.size, fun k hk hne => (h2.block k (Nat.lt_of_lt_of_le hk h.size) hne).trans (h.block k hk hne)⟩
theorem grown_of_below {a w : World} {row : Option Nat} (h : Below a.heap.size a w) : a.grownBy w row := ⟨h.os, h.tape, h.output, h.size, fun i hi _ => h.block i hi⟩

/-- The variable 'next', and the variable 'count'. -/
def nextV (g : Nat) : Value := .func (.func 46) #[] #[.pointer (some ⟨g, 0, none⟩)]
structure Env (g gn gc : Nat) (w : World) : Prop where
  n : w.heap[gn]? = some (.cells #[nextV g] 83 (0, 0))
  c : w.heap[gc]? = some (.cells #[.func (.func 47) #[] #[.pointer (some ⟨gn, 0, none⟩)]] 84 (0, 0))
  lt : g < gn
  ltc : gn < gc
theorem Env.grown {g gn gc : Nat} {w w' : World} (h : Env g gn gc w) (hg : w.grownBy w' (some g)) : Env g gn gc w' :=
  ⟨grown_cell hg h.n (by have := h.lt; omega), grown_cell hg h.c (by have := h.lt; have := h.ltc; omega), h.lt, h.ltc⟩

theorem next_any (g lo : Nat) (l : List Int) (w : World) (h : Rdr g lo w l) : Calls Try.prog 46 #[.pointer (some ⟨g, 0, none⟩)] w
    fun x w' => x = .returned (.int .i64 (Pc.nx l).1) ∧ Step g lo w w' (Pc.nx l).2 :=
  (next_any' g lo l w h).mono fun _ _ ⟨h1, h2, h3⟩ => ⟨h1, h2, h3⟩

set_option maxRecDepth 100000 in
set_option maxHeartbeats 2000000 in
theorem count_any (g gn gc lo : Nat) (l : List Int) (most : Int) (w : World) (he : Env g gn gc w) (h : Rdr g lo w l) : Calls Try.prog 47 #[.int .i64 most, .pointer (some ⟨gn, 0, none⟩)] w
    fun x w' => x = .returned (.int .i64 (Pc.cnt most l).1) ∧ Step g lo w w' (Pc.cnt most l).2 := by
  have cn := cell_of_one he.n
  unfold nextV at cn
  go_enter Try.func47, Try.ntmps47
  go_wp2_with fail
  refine (next_any g lo l _ h).mono ?_
  rintro e w1 ⟨rfl, hs⟩
  go_wp2_with fail
  go_ret
  exact ⟨rfl, hs⟩

/-- While a message is read: its cells are block r. -/
structure MsgInv (g lo gn r : Nat) (w0 w : World) (l : List Int) : Prop where
  rdr : Rdr g lo w l
  fnx : w.heap[gn]? = some (.cells #[nextV g] 83 (0, 0))
  fres : w.heap[r]? = some (.cells #[.int .i64 0, .int .i64 0] 47 (0, 0))
  only : w0.grownBy w (some g)
  ne1 : gn ≠ g
  ne2 : r ≠ g
theorem next_msg (g lo gn r : Nat) (w0 : World) (l : List Int) (w : World) (h : MsgInv g lo gn r w0 w l) : Calls Try.prog 46 #[.pointer (some ⟨g, 0, none⟩)] w
    fun x w' => x = .returned (.int .i64 (Pc.nx l).1) ∧ MsgInv g lo gn r w0 w' (Pc.nx l).2 :=
  (next_any g lo l w h.rdr).mono fun _ _ ⟨h1, h2⟩ => ⟨h1, h2.rdr, grown_cell h2.only h.fnx h.ne1, grown_cell h2.only h.fres h.ne2, grown_trans h.only h2.only, h.ne1, h.ne2⟩
theorem MsgInv.k {g lo gn r : Nat} {w0 w : World} {l : List Int} (h : MsgInv g lo gn r w0 w l) : w.cell? ⟨gn, 0, none⟩ = some (.func (.func 46) #[] #[.pointer (some ⟨g, 0, none⟩)]) := cell_of_one h.fnx
theorem MsgInv.c0 {g lo gn r : Nat} {w0 w : World} {l : List Int} (h : MsgInv g lo gn r w0 w l) : w.cell? ⟨r, 0, none⟩ = some (.int .i64 0) := cell_of_row w r 0 _ _ _ h.fres
theorem MsgInv.c1 {g lo gn r : Nat} {w0 w : World} {l : List Int} (h : MsgInv g lo gn r w0 w l) : w.cell? ⟨r, 1, none⟩ = some (.int .i64 0) := cell_of_row w r 1 _ _ _ h.fres
theorem MsgInv.f {g lo gn r : Nat} {w0 w : World} {l : List Int} (h : MsgInv g lo gn r w0 w l) (i : Nat) : w.frozen? ⟨r, i, none⟩ = false := by simp [World.frozen?, h.fres]

theorem blk_set {w : World} {g : Nat} {cs : Array Value} {t : TypeId} (h : w.heap[g]? = some (.cells cs t (0, 0))) (i : Nat) (u : Value) : (w.setCell ⟨g, i, none⟩ u).heap[g]? = some (.cells (cs.setIfInBounds i u) t (0, 0)) := by
  simp [World.setCell, Array.getElem?_modify, h]
theorem blk_cell {w : World} {g : Nat} {cs : Array Value} {t : TypeId} (h : w.heap[g]? = some (.cells cs t (0, 0))) (i : Nat) : w.cell? ⟨g, i, none⟩ = cs[i]? := cell_of_row w g i cs t (0, 0) h
theorem grown_new {w0 w : World} {g : Nat} (h : w0.grownBy w (some g)) {p : Addr} (hp : w0.heap.size ≤ p.block) (u : Value) : w0.grownBy (w.setCell p u) (some g) :=
  ⟨h.os, h.tape, h.output, by simpa [World.setCell] using h.size, fun i hi hne => (heap_setCell_other _ _ _ _ (by omega)).trans (h.block i hi hne)⟩

set_option maxRecDepth 100000 in
set_option maxHeartbeats 4000000 in
theorem rmsg_any (g gn gc lo : Nat) (l : List Int) (w : World) (he : Env g gn gc w) (h : Rdr g lo w l) : Calls Try.prog 52 #[.pointer (some ⟨gn, 0, none⟩)] w
    fun x w' => x = .returned (.agg #[.int .i64 (Pc.rmsg l).1.1, .int .i64 (Pc.rmsg l).1.2]) ∧ Step g lo w w' (Pc.rmsg l).2 := by
  have hgn := lt_of_block he.n
  have hgl := h.lt
  have hlt := he.lt
  have cn := cell_of_one he.n
  unfold nextV at cn
  have h0 : MsgInv g lo gn w.heap.size w (w.alloc (.cells #[.int .i64 0, .int .i64 0] 47)).drew l :=
    ⟨h.below ((Below.refl w.heap.size w).alloc (Nat.le_refl _) _).drew hgl, (heap_alloc_old _ _ hgn).trans he.n, heap_alloc_new _ _, grown_of_below ((Below.refl _ _).alloc (Nat.le_refl _) _).drew, by omega, by omega⟩
  have k := h0.k
  have hne1 : w.heap.size ≠ gn := by omega
  have hne2 : gn ≠ w.heap.size := by omega
  clear he h
  go_enter Try.func52, Try.ntmps52
  go_wp2_with fail
  go_region_held3 (fun w' => w'.cell? ⟨gn, 0, none⟩ = some (.func (.func 46) #[] #[.pointer (some ⟨g, 0, none⟩)])) (first | assumption | go_keep)
    (first | (go_at_call 46; refine (next_msg g lo gn w.heap.size w _ _ (by assumption)).mono ?_; rintro e w1 ⟨rfl, hi⟩; have k := hi.k; have c0 := hi.c0; have c1 := hi.c1; have f0 := hi.f 0; have f1 := hi.f 1))
  go_wp2_with fail
  have r2 := blk_set (blk_set hi.fres 0 (.int .i64 (Pc.nx l).1)) 1 (.int .i64 (Pc.nx (Pc.nx l).2).1)
  have e0 := blk_cell r2 0
  have e1 := blk_cell r2 1
  simp at e0 e1
  refine bodyPost_ret (v := .agg #[.int .i64 (Pc.nx l).1, .int .i64 (Pc.nx (Pc.nx l).2).1]) (by simp [results, Try.results52, go_sem, e0, e1]) rfl ⟨rfl, ?_, grown_new (grown_new hi.only (by simp) _) (by simp) _⟩
  exact hi.rdr.far fun b hb => (heap_setCell_other _ _ _ _ (by simp; omega)).trans (heap_setCell_other _ _ _ _ (by simp; omega))
end Go.Proofs.Ytdfgnmdofjhnkaa
