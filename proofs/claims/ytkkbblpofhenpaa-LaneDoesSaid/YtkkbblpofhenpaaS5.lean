/- Lemmas, walks and contracts that the statements of this seat are proved by. -/
import Derived.Test.YtkkbblpofhenpaaS3
import Derived.Test.YtkkbblpofhenpaaS4
import Derived.Test.YtkkbblpofhenpaaS1
import Derived.Test.YtkkbblpofhenpaaS2
/- cameolaw06.Cut -/
namespace Go.Proofs.Ytkkbblpofhenpaa
open Go.RowKit

namespace Pc
/-- A piece with at most 7 lists of 20. -/
def cut (p : Piece) : Piece := ⟨p.node, p.state, p.steps, p.sent.take 7, (p.inn.take 7).map (List.take 20), (p.out.take 7).map (List.take 20)⟩
end Pc

/-- While a piece is cut: block 'bx' is the piece that came in, R the result's, gp the cut one's. -/
structure CInv (R gp : Nat) (W w : World) (cs : Array Value) : Prop where
  p : w.heap[gp]? = some (.cells cs 79 (0, 0))
  hp : W.heap.size ≤ gp
  low : Below W.heap.size W w
section
variable {R gp : Nat} {W w w' : World} {cs : Array Value} {a b c d e f : Value}
theorem CInv.set_ (h : CInv R gp W w cs) (i : Nat) (u : Value) : CInv R gp W (w.setCell ⟨gp, i, none⟩ u) (cs.setIfInBounds i u) :=
  ⟨blk_set h.p i u, h.hp, h.low.setCell h.hp _⟩
theorem CInv.set4 (h : CInv R gp W w #[a, b, c, d, e, f]) (u : Value) : CInv R gp W (w.setCell ⟨gp, 4, none⟩ u) #[a, b, c, d, u, f] := h.set_ 4 u
theorem CInv.set5 (h : CInv R gp W w #[a, b, c, d, e, f]) (u : Value) : CInv R gp W (w.setCell ⟨gp, 5, none⟩ u) #[a, b, c, d, e, u] := h.set_ 5 u
end

/-- The blocks of memory made since W, but for the piece's own. -/
abbrev cutS (W w : World) (gp : Nat) : Nat → Prop := fun b => W.heap.size ≤ b ∧ b < w.heap.size ∧ b ≠ gp
theorem cut_own1 {W wv w0 : World} {v2 : Value} {news : List Value} {ys : List Int} {e : TypeId} {S : Nat → Prop} (h : wv.ownsRow W.heap.size e Rep.int.size v2 (0 + ys.length) ([] ++ news)) (hn : Rep.int.all false w0 S news ys) :
    SliceOn Rep.int true wv (cutS W wv wv.heap.size) v2 ys := by
  have h' : wv.ownsRow W.heap.size e Rep.int.size v2 ys.length news := by simpa using h
  exact SliceOn.of_own h' (Rep.all_flat flat_int hn) fun g hg => ⟨(h'.lt g hg).1, (h'.lt g hg).2, by have := (h'.lt g hg).2; omega⟩
theorem cut_own2 {W wv w0 : World} {v v2 : Value} {news : List Value} {ys : List Int} {e : TypeId} {S : Nat → Prop} {gp k n : Nat} (h : wv.ownsRow W.heap.size e Rep.int.size v2 (0 + ys.length) ([] ++ news)) (hn : Rep.int.all false w0 S news ys)
    (ha : v2.ownBlock = v.ownBlock ∨ v2.ownBlock = some n) (hv : v.ownBlock = some k) (hk : k ≠ gp) (hg : n ≠ gp) :
    SliceOn Rep.int true wv (cutS W wv gp) v2 ys := by
  have h' : wv.ownsRow W.heap.size e Rep.int.size v2 ys.length news := by simpa using h
  refine SliceOn.of_own h' (Rep.all_flat flat_int hn) fun g hg' => ⟨(h'.lt g hg').1, (h'.lt g hg').2, ?_⟩
  rcases ha with q | q
  · rw [q, hv] at hg'; cases hg'; exact hk
  · rw [q] at hg'; cases hg'; exact hg

theorem cut_close {W w : World} {gp : Nat} {a0 b0 c0 d0 e0 f0 v : Value} {ys : List Int} (h : w.heap[gp]? = some (.cells #[a0, b0, c0, d0, e0, f0] 79 (0, 0))) (hgp : W.heap.size ≤ gp) (hb : Below W.heap.size W w)
    (hv : SliceOn Rep.int true w (cutS W w gp) v ys) (a b c e f : Value) :
    SliceOn Rep.int true ((((((w.setCell ⟨gp, 0, none⟩ a).setCell ⟨gp, 1, none⟩ b).setCell ⟨gp, 2, none⟩ c).setCell ⟨gp, 3, none⟩ v).setCell ⟨gp, 4, none⟩ e).setCell ⟨gp, 5, none⟩ f)
      (cutS W ((((((w.setCell ⟨gp, 0, none⟩ a).setCell ⟨gp, 1, none⟩ b).setCell ⟨gp, 2, none⟩ c).setCell ⟨gp, 3, none⟩ v).setCell ⟨gp, 4, none⟩ e).setCell ⟨gp, 5, none⟩ f) gp) v ys ∧
    CInv 0 gp W ((((((w.setCell ⟨gp, 0, none⟩ a).setCell ⟨gp, 1, none⟩ b).setCell ⟨gp, 2, none⟩ c).setCell ⟨gp, 3, none⟩ v).setCell ⟨gp, 4, none⟩ e).setCell ⟨gp, 5, none⟩ f) #[a, b, c, v, e, f] := by
  refine ⟨(hv.keep fun k hk => ?_).widen fun k hk => ⟨hk.1, by simpa [World.setCell] using hk.2.1, hk.2.2⟩, six_set h _ _ _ _ _ _, hgp, six_below hb hgp _ _ _ _ _ _⟩
  have o : ∀ (w : World) (i : Nat) (u : Value), (w.setCell ⟨gp, i, none⟩ u).heap[k]? = w.heap[k]? := fun w i u => heap_setCell_other _ _ _ _ (by have := hk.2.2; simp; omega)
  rw [o, o, o, o, o, o]

theorem cut_close1 {W wv : World} {v : Value} {ys : List Int} (hb : Below W.heap.size W wv) (hv : SliceOn Rep.int true wv (cutS W wv wv.heap.size) v ys) (a b c e f : Value) :
    SliceOn Rep.int true (wv.alloc (.cells #[a, b, c, v, e, f] 79)) (cutS W (wv.alloc (.cells #[a, b, c, v, e, f] 79)) wv.heap.size) v ys ∧
    CInv 0 wv.heap.size W (wv.alloc (.cells #[a, b, c, v, e, f] 79)) #[a, b, c, v, e, f] := by
  refine ⟨(hv.keep fun k hk => heap_alloc_old _ _ hk.2.1).widen fun k hk => ⟨hk.1, ?_, hk.2.2⟩, heap_alloc_new _ _, hb.size, hb.alloc hb.size _⟩
  have := hk.2.1
  rw [World.size_alloc]; omega

theorem cut_end {W w : World} {gp : Nat} {a0 b0 c0 d0 e0 f0 v : Value} {ys : List Int} (h : w.heap[gp]? = some (.cells #[a0, b0, c0, d0, e0, f0] 79 (0, 0))) (hgp : W.heap.size ≤ gp) (hb : Below W.heap.size W w)
    (hv : SliceOn Rep.int true w (cutS W w gp) v ys) (a b c e f : Value) : ∃ g' v', Value.pointer (some ⟨gp, 0, none⟩) = Value.pointer (some ⟨g', 0, none⟩) ∧
    SliceOn Rep.int true ((((((w.setCell ⟨gp, 0, none⟩ a).setCell ⟨gp, 1, none⟩ b).setCell ⟨gp, 2, none⟩ c).setCell ⟨gp, 3, none⟩ v).setCell ⟨gp, 4, none⟩ e).setCell ⟨gp, 5, none⟩ f)
      (cutS W ((((((w.setCell ⟨gp, 0, none⟩ a).setCell ⟨gp, 1, none⟩ b).setCell ⟨gp, 2, none⟩ c).setCell ⟨gp, 3, none⟩ v).setCell ⟨gp, 4, none⟩ e).setCell ⟨gp, 5, none⟩ f) g') v' ys ∧
    CInv 0 g' W ((((((w.setCell ⟨gp, 0, none⟩ a).setCell ⟨gp, 1, none⟩ b).setCell ⟨gp, 2, none⟩ c).setCell ⟨gp, 3, none⟩ v).setCell ⟨gp, 4, none⟩ e).setCell ⟨gp, 5, none⟩ f) #[a, b, c, v', e, f] := ⟨gp, v, rfl, cut_close h hgp hb hv a b c e f⟩
theorem cut_end1 {W wv : World} {v : Value} {ys : List Int} (hb : Below W.heap.size W wv) (hv : SliceOn Rep.int true wv (cutS W wv wv.heap.size) v ys) (a b c e f : Value) : ∃ g' v', Value.pointer (some ⟨wv.heap.size, 0, none⟩) = Value.pointer (some ⟨g', 0, none⟩) ∧
    SliceOn Rep.int true (wv.alloc (.cells #[a, b, c, v, e, f] 79)) (cutS W (wv.alloc (.cells #[a, b, c, v, e, f] 79)) g') v' ys ∧
    CInv 0 g' W (wv.alloc (.cells #[a, b, c, v, e, f] 79)) #[a, b, c, v', e, f] := ⟨wv.heap.size, v, rfl, cut_close1 hb hv a b c e f⟩

/-- While a piece's lists are cut: since wc only block gp has turned. -/
structure KInv (gp : Nat) (wc w : World) (cs : Array Value) : Prop where
  p : w.heap[gp]? = some (.cells cs 79 (0, 0))
  lt : gp < wc.heap.size
  only : wc.grownBy w (some gp)
section
variable {gp : Nat} {W wc w w' : World} {cs : Array Value} {a b c d e f : Value}
theorem KInv.step (h : KInv gp wc w cs) (hb : Below wc.heap.size w w') : KInv gp wc w' cs :=
  ⟨(hb.block gp h.lt).trans h.p, h.lt, ⟨hb.os.trans h.only.os, hb.tape.trans h.only.tape, hb.output.trans h.only.output, Nat.le_trans h.only.size hb.size, fun k hk hne => (hb.block k hk).trans (h.only.block k hk hne)⟩⟩
theorem KInv.set_ (h : KInv gp wc w cs) (i : Nat) (u : Value) : KInv gp wc (w.setCell ⟨gp, i, none⟩ u) (cs.setIfInBounds i u) :=
  ⟨blk_set h.p i u, h.lt, ⟨h.only.os, h.only.tape, h.only.output, by have := h.only.size; simpa [World.setCell] using this, fun k hk hne => (heap_setCell_other _ _ _ _ (by intro e'; exact hne (congrArg some e'))).trans (h.only.block k hk hne)⟩⟩
theorem KInv.set4 (h : KInv gp wc w #[a, b, c, d, e, f]) (u : Value) : KInv gp wc (w.setCell ⟨gp, 4, none⟩ u) #[a, b, c, d, u, f] := h.set_ 4 u
theorem KInv.set5 (h : KInv gp wc w #[a, b, c, d, e, f]) (u : Value) : KInv gp wc (w.setCell ⟨gp, 5, none⟩ u) #[a, b, c, d, e, u] := h.set_ 5 u
theorem KInv.low (h : KInv gp wc w cs) {B : Nat} (hB : B ≤ gp) : Below B wc w := ⟨h.only.os, h.only.tape, h.only.output, h.only.size, fun k hk => h.only.block k (by have := h.lt; omega) (by intro e; injection e; omega)⟩
end
theorem below_drewL {B : Nat} {w w' : World} (h : Below B w w') : Below B w.drew w' := ⟨h.os, h.tape, h.output, h.size, h.block⟩
section
variable {P : Program} {w : World} {ops : Array Oper} {o : Oper} {a : Act} {Q : Exit → Act → World → Prop}
end

set_option maxRecDepth 100000 in
set_option maxHeartbeats 8000000 in
theorem cut6_any (v : Value) (p : Pc.Piece) (w : World) (h : PieceIs false w 0 w.heap.size v p) : Calls Try.prog 38 #[v] w
    fun x w' => (∃ v', x = .returned v' ∧ PieceIs true w' w.heap.size w'.heap.size v' (Pc.cut p)) ∧ Below w.heap.size w w' := by
  obtain ⟨n, s, t, xs, ms, os⟩ := p
  obtain ⟨a, b, c, rfl, ⟨A1, c1, rfl, l1, m1, h1⟩, ⟨A2, c2, rfl, l2, m2, h2⟩, ⟨A3, c3, rfl, l3, m3, h3⟩⟩ := h
  dsimp only at l1 l2 l3 h1 h2 h3
  obtain ⟨ys, hys⟩ : ∃ ys, ys = xs.take 7 := ⟨_, rfl⟩
  have hcl : (min (xs.length : Int) 7).toNat = ys.length := by rw [hys]; simp; omega
  have hyl : ys.length ≤ 7 := by rw [hys]; simp; omega
  have hm0 : (0 : Int) ≤ min (xs.length : Int) 7 := by omega
  have hm1 : min (xs.length : Int) 7 ≤ (c1 : Int) := by omega
  have h1t := h1.take 7
  rw [← hys] at h1t
  obtain ⟨W, hW⟩ : ∃ W, W = (w.alloc (.cells #[.int .i64 n, .int .i64 s, .int .i64 t, .slice A1 xs.length c1, .slice A2 ms.length c2, .slice A3 os.length c3] 79)).alloc (.cells #[.int .i64 0, .int .i64 0, .int .i64 0, .slice none 0 0, .slice none 0 0, .slice none 0 0] 79) := ⟨_, rfl⟩
  have hb0 : Below w.heap.size w W := by rw [hW]; exact below_2 _ _ _
  have hsz : W.heap.size = w.heap.size + 1 + 1 := by rw [hW]; simp
  have hbox : W.heap[w.heap.size]? = some (.cells #[.int .i64 n, .int .i64 s, .int .i64 t, .slice A1 xs.length c1, .slice A2 ms.length c2, .slice A3 os.length c3] 79 (0, 0)) := by rw [hW, heap_alloc_old _ _ (by simp)]; exact heap_alloc_new _ _
  have hres : W.heap[w.heap.size + 1]? = some (.cells #[.int .i64 0, .int .i64 0, .int .i64 0, .slice none 0 0, .slice none 0 0, .slice none 0 0] 79 (0, 0)) := by have h := heap_alloc_new (w.alloc (.cells #[.int .i64 n, .int .i64 s, .int .i64 t, .slice A1 xs.length c1, .slice A2 ms.length c2, .slice A3 os.length c3] 79)) (.cells #[.int .i64 0, .int .i64 0, .int .i64 0, .slice none 0 0, .slice none 0 0, .slice none 0 0] 79); rw [World.size_alloc] at h; rw [hW]; exact h
  have HRES := Lib.hid hres; clear hres
  have hlow : w.heap.size < W.heap.size := by omega
  obtain ⟨k0, k1, k2, k3, k4, k5⟩ := six_cells hbox
  have hne := World.new_ne W ⟨w.heap.size, 0, none⟩ k0
  have hO : ∀ (w' : World), Below W.heap.size W w' → (w'.alloc (.cells ([] : List Value).toArray 3)).ownsRow W.heap.size 3 Rep.int.size (.slice (some ⟨w'.heap.size, 0, none⟩) 0 0) 0 [] := fun w' hb => own_lit (size := Rep.int.size) W.heap.size 3 0 [] (by simp) hb.size (by unfold maxLen; omega)
  have hA : ∀ (w' : World), Below W.heap.size W w' → SliceAt Rep.int false w' 0 w.heap.size A1 ys := fun w' hb => (h1t.below hb0 (Nat.le_refl _)).below hb (by omega)
  have HSZ := Lib.hid hsz; clear hsz
  have HYS := Lib.hid hys; clear hys
  have HO := Lib.hid hO; clear hO
  have HA := Lib.hid hA; clear hA
  have HW := Lib.hid hW; clear hW
  have HBOX := Lib.hid hbox; clear hbox
  have HB0 := Lib.hid hb0; clear hb0
  clear h1 h1t
  unfold maxLen at m1 m2 m3
  go_enter Try.func38, Try.ntmps38
  go_upto_region 1 with fail
  rw [← HW.out]
  go_cut [3] (fun p wx => ∃ gp v, p = .pointer (some ⟨gp, 0, none⟩) ∧ SliceOn Rep.int true wx (cutS W wx gp) v ys ∧ CInv 0 gp W wx #[.int .i64 n, .int .i64 s, .int .i64 t, v, .slice none 0 0, .slice none 0 0])
  case first =>
    have b1 : Below W.heap.size W ((W.alloc (.cells #[] 3)).drew) := ((Below.refl _ _).alloc (Nat.le_refl _) _).drew
    have b2 : Below W.heap.size W (((W.alloc (.cells #[] 3)).alloc (.cells #[.int .i64 0, .int .i64 0, .int .i64 0, .slice none 0 0, .slice none 0 0, .slice none 0 0] 79)).drew) := (((Below.refl _ _).alloc (Nat.le_refl _) _).alloc (by simp) _).drew
    have b3 : Below W.heap.size W (((W.alloc (.cells #[.int .i64 0, .int .i64 0, .int .i64 0, .slice none 0 0, .slice none 0 0, .slice none 0 0] 79)).alloc (.cells #[] 3)).drew) := (((Below.refl _ _).alloc (Nat.le_refl _) _).alloc (by simp) _).drew
    have o1 : ((W.alloc (.cells #[] 3)).drew).ownsRow W.heap.size 3 Rep.int.size (.slice (some ⟨W.heap.size, 0, none⟩) 0 0) 0 [] := HO.out W (Below.refl _ _)
    have o2 : (((W.alloc (.cells #[] 3)).alloc (.cells #[.int .i64 0, .int .i64 0, .int .i64 0, .slice none 0 0, .slice none 0 0, .slice none 0 0] 79)).drew).ownsRow W.heap.size 3 Rep.int.size (.slice (some ⟨W.heap.size, 0, none⟩) 0 0) 0 [] := (HO.out W (Below.refl _ _)).alloc _
    have o3 : (((W.alloc (.cells #[.int .i64 0, .int .i64 0, .int .i64 0, .slice none 0 0, .slice none 0 0, .slice none 0 0] 79)).alloc (.cells #[] 3)).drew).ownsRow W.heap.size 3 Rep.int.size (.slice (some ⟨W.heap.size + 1, 0, none⟩) 0 0) 0 [] := by
      have := HO.out (W.alloc (.cells #[.int .i64 0, .int .i64 0, .int .i64 0, .slice none 0 0, .slice none 0 0, .slice none 0 0] 79)) ((Below.refl _ _).alloc (Nat.le_refl _) _)
      rw [World.size_alloc] at this
      exact this
    have p2 : (((W.alloc (.cells #[] 3)).alloc (.cells #[.int .i64 0, .int .i64 0, .int .i64 0, .slice none 0 0, .slice none 0 0, .slice none 0 0] 79)).drew).heap[W.heap.size + 1]? = some (.cells #[.int .i64 0, .int .i64 0, .int .i64 0, .slice none 0 0, .slice none 0 0, .slice none 0 0] 79 (0, 0)) := by
      have h := heap_alloc_new (W.alloc (.cells #[] 3)) (.cells #[.int .i64 0, .int .i64 0, .int .i64 0, .slice none 0 0, .slice none 0 0, .slice none 0 0] 79)
      rw [World.size_alloc] at h
      exact h
    have p3 : (((W.alloc (.cells #[.int .i64 0, .int .i64 0, .int .i64 0, .slice none 0 0, .slice none 0 0, .slice none 0 0] 79)).alloc (.cells #[] 3)).drew).heap[W.heap.size]? = some (.cells #[.int .i64 0, .int .i64 0, .int .i64 0, .slice none 0 0, .slice none 0 0, .slice none 0 0] 79 (0, 0)) := (heap_alloc_old _ _ (by simp)).trans (heap_alloc_new _ _)
    have a1 := HA.out _ b1
    have a2 := HA.out _ b2
    have a3 := HA.out _ b3
    have B1 := Lib.hid b1; have B2 := Lib.hid b2; have B3 := Lib.hid b3
    have O1 := Lib.hid o1; have O2 := Lib.hid o2; have O3 := Lib.hid o3
    have P2 := Lib.hid p2; have P3 := Lib.hid p3
    have AA1 := Lib.hid a1; have AA2 := Lib.hid a2; have AA3 := Lib.hid a3
    clear b1 b2 b3 o1 o2 o3 p2 p3 a1 a2 a3
    have n1 : W.heap.size ≠ w.heap.size := by omega
    have n2 : w.heap.size ≠ W.heap.size := by omega
    have n3 : W.heap.size + 1 ≠ w.heap.size := by omega
    have n4 : w.heap.size ≠ W.heap.size + 1 := by omega
    go_region_held3 (fun w' => w'.cell? ⟨w.heap.size, 0, none⟩ = some (.int .i64 n) ∧ w'.cell? ⟨w.heap.size, 1, none⟩ = some (.int .i64 s) ∧ w'.cell? ⟨w.heap.size, 2, none⟩ = some (.int .i64 t) ∧ w'.cell? ⟨w.heap.size, 3, none⟩ = some (.slice A1 xs.length c1)) (first | (refine ⟨?_, ?_, ?_, ?_⟩ <;> with_reducible assumption) | go_keep) (first | (refine step_appendS (r := Rep.int) (ys := ys) (by rfl) (.tmp 12) (.tmp 19) 35 (by rfl) W.heap.size 3 Try.infoInt Try.underlying35 rfl (.slice (some ⟨W.heap.size, 0, none⟩) 0 0) 0 [] (by rfl) O1.out _ _ (by rfl) AA1.out (by unfold maxLen; omega) (by omega) (by first | (simp; omega) | simp) ?_; intro v2 wv news hn hown2 hg2 hb2 ha2; have hbW : Below W.heap.size W wv := B1.out.trans hb2; obtain ⟨k0, k1, k2, k3, k4, k5⟩ := six_cells ((hbW.block _ hlow).trans HBOX.out); have hv2 := cut_own1 hown2 hn; clear hn hown2 ha2; obtain ⟨Av, cv, hve, _⟩ := id hv2; subst hve; have n5 : wv.heap.size ≠ w.heap.size := (by have := hbW.size; omega); have n6 : w.heap.size ≠ wv.heap.size := (by omega); skip) | (refine step_appendS (r := Rep.int) (ys := ys) (by rfl) (.tmp 12) (.tmp 19) 35 (by rfl) W.heap.size 3 Try.infoInt Try.underlying35 rfl (.slice (some ⟨W.heap.size, 0, none⟩) 0 0) 0 [] (by rfl) O2.out _ _ (by rfl) AA2.out (by unfold maxLen; omega) (by omega) (by first | (simp; omega) | simp) ?_; intro v2 wv news hn hown2 hg2 hb2 ha2; have hbW : Below W.heap.size W wv := B2.out.trans hb2; obtain ⟨k0, k1, k2, k3, k4, k5⟩ := six_cells ((hbW.block _ hlow).trans HBOX.out); have hv2 := cut_own2 (gp := W.heap.size + 1) (k := W.heap.size) hown2 hn ha2 (by rfl) (by omega) (by simp); clear hn hown2 ha2; obtain ⟨Av, cv, hve, _⟩ := id hv2; subst hve; have n5 : wv.heap.size ≠ w.heap.size := (by have := hbW.size; omega); have n6 : w.heap.size ≠ wv.heap.size := (by omega); have hpb := (hg2.block (W.heap.size + 1) (by simp) (by simp [Value.ownBlock])).trans P2.out; obtain ⟨c0, c1, c2, c3, c4, c5⟩ := six_cells hpb; obtain ⟨f0, f1, f2, f3, f4, f5⟩ := six_free hpb; have HPB := Lib.hid hpb; clear hpb) | (refine step_appendS (r := Rep.int) (ys := ys) (by rfl) (.tmp 12) (.tmp 19) 35 (by rfl) W.heap.size 3 Try.infoInt Try.underlying35 rfl (.slice (some ⟨W.heap.size + 1, 0, none⟩) 0 0) 0 [] (by rfl) O3.out _ _ (by rfl) AA3.out (by unfold maxLen; omega) (by omega) (by first | (simp; omega) | simp) ?_; intro v2 wv news hn hown2 hg2 hb2 ha2; have hbW : Below W.heap.size W wv := B3.out.trans hb2; obtain ⟨k0, k1, k2, k3, k4, k5⟩ := six_cells ((hbW.block _ hlow).trans HBOX.out); have hv2 := cut_own2 (gp := W.heap.size) (k := W.heap.size + 1) hown2 hn ha2 (by rfl) (by omega) (by simp; omega); clear hn hown2 ha2; obtain ⟨Av, cv, hve, _⟩ := id hv2; subst hve; have n5 : wv.heap.size ≠ w.heap.size := (by have := hbW.size; omega); have n6 : w.heap.size ≠ wv.heap.size := (by omega); have hpb := (hg2.block W.heap.size (by first | (simp; omega) | simp) (by simp [Value.ownBlock])).trans P3.out; obtain ⟨c0, c1, c2, c3, c4, c5⟩ := six_cells hpb; obtain ⟨f0, f1, f2, f3, f4, f5⟩ := six_free hpb; have HPB := Lib.hid hpb; clear hpb))
    all_goals go_wp2_with fail
    all_goals go_meet
    all_goals first | exact cut_end (gp := W.heap.size + 1) HPB.out (Nat.le_succ _) hbW hv2 _ _ _ _ _ | exact cut_end (gp := W.heap.size) HPB.out (Nat.le_refl _) hbW hv2 _ _ _ _ _ | exact cut_end1 hbW hv2 _ _ _ _ _
  case rest =>
    obtain ⟨gp, v, rfl, hv, hc⟩ := hcut
    have hgp := hc.hp
    have HBc := Lib.hid hc.low
    have hk : KInv gp wc wc #[.int .i64 n, .int .i64 s, .int .i64 t, v, .slice none 0 0, .slice none 0 0] := ⟨hc.p, lt_of_block hc.p, World.grownBy.refl _ _⟩
    clear hc
    obtain ⟨wa, rfl⟩ : ∃ x : World, x = wc := ⟨_, rfl⟩
    go_upto_block 0 with fail
    obtain ⟨zs, hzs⟩ : ∃ zs, zs = (ms.take 7).map (List.take 20) := ⟨_, rfl⟩
    have hzl : zs.length = min ms.length 7 := by rw [hzs]; simp; omega
    have hzat : ∀ (j : Nat) x, ms[j]? = some x → j < 7 → zs[j]? = some (x.take 20) := fun j x hx hj => by rw [hzs, List.getElem?_map, List.getElem?_take, if_pos hj, hx]; rfl
    have HZS1 := Lib.hid hzs; clear hzs
    have HZAT := Lib.hid hzat; clear hzat
    have HZL := Lib.hid hzl; clear hzl
    go_cut [4] (fun _ wx => ∃ u, KInv gp wa wx #[.int .i64 n, .int .i64 s, .int .i64 t, v, u, .slice none 0 0] ∧ SliceIs Rep.msg.slice true wx wa.heap.size wx.heap.size u zs)
    case first =>
      go_wp2_with fail
      go_loopg [4] (8 : Nat) (fun k i wr => ∃ (j : Nat) (u : Value), i = .int .i64 (j : Int) ∧ j ≤ zs.length ∧ k = 8 - j ∧ KInv gp wa wr #[.int .i64 n, .int .i64 s, .int .i64 t, v, u, .slice none 0 0] ∧ Acc Rep.msg.slice 62 wa.heap.size wr u (zs.take j))
      case atStart => exact ⟨0, _, rfl, by omega, by omega, hk, by simpa using Acc.nil _ _ _ _⟩
      case round =>
        clear hk
        obtain ⟨j, u, rfl, hj, hk2, hk, ha⟩ := hrel
        have HK2 := Lib.hid hk2; clear hk2
        have hbr := HBc.out.trans (hk.low hgp)
        have hbw : Below w.heap.size w wr := HB0.out.trans (hbr.mono (by omega))
        have hsz := hbr.size
        have hBr : wa.heap.size ≤ wr.heap.size := hk.only.size
        have hgpr : gp < wr.heap.size := lt_of_block hk.p
        have hlow2 : w.heap.size < wr.heap.size := by omega
        obtain ⟨k0, k1, k2, k3, k4, k5⟩ := six_cells ((hbr.block _ hlow).trans HBOX.out)
        clear k0 k1 k2 k3 k5
        have K4 := Lib.hid k4
        by_cases hlt : j < zs.length
        · have hjn : j < ms.length := by have := HZL.out; omega
          have hj7 : j < 7 := by have := HZL.out; omega
          obtain ⟨x, hx⟩ := Pc.get_at hjn
          have hzx := HZAT.out j x hx hj7
          obtain ⟨ys2, hys2⟩ : ∃ ys2, ys2 = x.take 20 := ⟨_, rfl⟩
          rw [← hys2] at hzx
          have htk := Pc.take_next hzx
          obtain ⟨g, o, vx, rfl, _, hg, c0, ⟨Ax, cx, rfl, lx, mx, hxa⟩⟩ := (h2.below hbw (Nat.le_refl _)).row hx
          have hxt := hxa.take 20
          rw [← hys2] at hxt
          have hcl2 : (min (x.length : Int) 20).toNat = ys2.length := by rw [hys2]; simp; omega
          have hyl2 : ys2.length ≤ 20 := by rw [hys2]; simp; omega
          have hn0 : (0 : Int) ≤ min (x.length : Int) 20 := by omega
          have hn1 : min (x.length : Int) 20 ≤ (cx : Int) := by omega
          have hg1 : g < wr.heap.size := by omega
          have hltB := hk.lt
          have hlowB : w.heap.size < wa.heap.size := by omega
          have hgB : g < wa.heap.size := by omega
          have C0 := Lib.hid c0
          have hlen : (zs.take j).length = j := by simp; omega
          obtain ⟨Au, cu, rfl, _⟩ := ha.slice
          rw [hlen] at ha hk
          obtain ⟨xj, hxj⟩ : ∃ xj, xj = zs.take j := ⟨_, rfl⟩
          rw [← hxj] at ha htk hlen
          have hxjl : xj.length ≤ 1000000 := by omega
          have kp := blk_cell hk.p 4
          simp only [List.getElem?_toArray, List.getElem?_cons_zero, List.getElem?_cons_succ] at kp
          have KP := Lib.hid kp
          have hb1 : Below wr.heap.size wr ((wr.alloc (.cells #[] 33)).drew) := ((Below.refl _ _).alloc (Nat.le_refl _) _).drew
          have o1 : ((wr.alloc (.cells #[] 33)).drew).ownsRow wr.heap.size 33 Rep.msg.size (.slice (some ⟨wr.heap.size, 0, none⟩) 0 0) 0 [] := own_lit (w := wr) (size := Rep.msg.size) wr.heap.size 33 0 [] (by simp) (Nat.le_refl _) (by unfold maxLen; omega)
          have a1 := hxt.below hb1 (by omega)
          have B1 := Lib.hid hb1; have O1 := Lib.hid o1; have AA1 := Lib.hid a1
          have HK := Lib.hid hk; have HA := Lib.hid ha
          have HTK := Lib.hid htk; have HLEN := Lib.hid hlen
          have i0 : (0 : Int) ≤ (j : Int) := by omega
          have i1 : (j : Int) < (ms.length : Int) := by omega
          have i2 : (j : Int) < 7 := by omega
          clear hb1 o1 a1 hk ha htk hlen hxa hxt hys2 hx hzx hxj hbr hbw lx
          unfold maxLen at mx
          have ne1 : gp ≠ w.heap.size := by omega
          have ne2 : w.heap.size ≠ gp := by omega
          have ne3 : wr.heap.size ≠ w.heap.size := by omega
          have ne4 : w.heap.size ≠ wr.heap.size := by omega
          have ne5 : wr.heap.size ≠ gp := by omega
          have ne6 : gp ≠ wr.heap.size := by omega
          have ne7 : wr.heap.size ≠ g := by omega
          have ne8 : g ≠ wr.heap.size := by omega
          go_wp2_with fail
          refine region_go 65536 (by kernel_rfl) ?_
          refine wpAny_reads 65536 0 [0, 1, 3, 4, 5, 6, 7, 8, 9, 10, 11, 12, 13] 16379 8 (by kernel_rfl) (by kernel_rfl) (fun _ _ _ _ _ h => h) (by kernel_rfl) (by rfl) (by rfl) (by kernel_rfl) ?_
          simp only [List.map_cons, List.map_nil, List.getD_cons_succ, List.getD_cons_zero]
          go_wp2_with fail
          change _ → wpAnyM _ _ _ _ _ _ _ _ _ _; intro _
          refine wpAny_takeM 14 rfl (by kernel_rfl) (by rfl : 16379 ||| 2 ^ 14 = 32763) (by kernel_rfl) (by kernel_rfl) (by kernel_rfl) (by kernel_rfl) (fun _ _ _ h => h) (.inl ⟨by rfl, fun w => by (go_simp; try with_reducible rfl)⟩) ?_
          refine wpAny_reads 65536 32763 [15] 65531 6 (by kernel_rfl) (by kernel_rfl) (fun _ _ _ _ _ h => h) (by kernel_rfl) (by rfl) (by rfl) (by kernel_rfl) ?_
          simp only [List.map_cons, List.map_nil, List.getD_cons_succ, List.getD_cons_zero]
          go_wp2_with fail
          change _ → wpAnyM _ _ _ _ _ _ _ _ _ _; intro _
          refine wpAny_go 65536 65531 [2] 65535 5 (by kernel_rfl) (by kernel_rfl) (fun _ _ _ _ _ h => h) (by kernel_rfl) (by rfl) (by rfl) (by kernel_rfl) ?_
          simp only [List.map_cons, List.map_nil, List.getD_cons_succ, List.getD_cons_zero]
          go_wp2_with fail
          change wpAnyM _ _ _ _ _ _ _ _ _ _
          refine wpAny_oneM 16 131071 (by kernel_rfl) (by kernel_rfl) (of_decide_eq_true (by kernel_rfl)) (by rfl) ?_
          simp only [List.getD_cons_succ, List.getD_cons_zero]
          go_wp2_with (at_builtin; refine wpList_appendS (r := Rep.msg) (ys := ys2) rfl (.tmp 35) (.tmp 48) 62 rfl wr.heap.size 33 Try.infoMsg Try.underlying62 rfl _ 0 [] rfl O1.out _ _ rfl AA1.out (by unfold maxLen; omega) (by omega) (by simp) ?_; intro v2 wv news hn hown2 hg2 hb2 ha2; have hbv : Below wr.heap.size wr wv := B1.out.trans hb2; clear k4 c0 kp; have k4 := (hbv.cell (p := ⟨w.heap.size, 4, none⟩) hlow2).trans K4.out; have c0 := (hbv.cell (p := ⟨g, o + j, none⟩) hg1).trans C0.out; have kp := (hbv.cell (p := ⟨gp, 4, none⟩) hgpr).trans KP.out; have hv2 : SliceIs Rep.msg true wv wr.heap.size wv.heap.size v2 ys2 := SliceIs.of_own (r := Rep.msg) (base := wr.heap.size) (e := 33) (cells := news) (by simpa using hown2) (Rep.all_flat flat_msg hn) (Nat.le_refl _) (Nat.le_refl _); clear hn hown2 ha2; obtain ⟨Av, cv, hve, _⟩ := id hv2; subst hve; have hvs : wr.heap.size ≤ wv.heap.size := hbv.size)
          refine ⟨fun _ => Ext.below (below_drewL hbv) (Nat.le_refl _), ?_⟩
          refine wpAny_go 65536 131071 [17, 18, 19, 20] 2097151 0 (by kernel_rfl) (by kernel_rfl) (fun _ _ _ _ _ h => h) (by kernel_rfl) (by rfl) (by rfl) (by kernel_rfl) ?_
          simp only [List.map_cons, List.map_nil, List.getD_cons_succ, List.getD_cons_zero]
          go_wp2_with (at_builtin; refine wpList_accB (r := Rep.msg.slice) (w0 := wr) (xs := xj) (y := ys2) rfl (.tmp 34) (.tmp 50) 76 rfl wa.heap.size 62 Try.infoMsgs Try.underlying76 rfl (by omega) (.slice Au j cu) (by rfl) HA.out (fun b _ hb => hbv.block b hb) hvs hBr 1 wv.heap.size [.slice Av ys2.length cv] (by rfl) rfl ⟨_, rfl, hv2⟩ hxjl ?_; intro v6 w6 hacc6 hg6 hb6; have hk6 := HK.out.step ((hbv.mono hBr).trans hb6); have kp := blk_cell hk6.p 4; have f6 : w6.frozen? ⟨gp, 4, none⟩ = false := (by simp [World.frozen?, hk6.p]); simp only [List.getElem?_toArray, List.getElem?_cons_zero, List.getElem?_cons_succ] at kp; obtain ⟨A6, c6, hve6, _⟩ := hacc6.slice; subst hve6; have HK6 := Lib.hid hk6; clear hk6 k4 c0; have k4 := ((hbv.mono hBr).trans hb6).cell (p := ⟨w.heap.size, 4, none⟩) hlowB |>.trans K4.out; have c0 := ((hbv.mono hBr).trans hb6).cell (p := ⟨g, o + j, none⟩) hgB |>.trans C0.out)
          change wpAnyM _ _ _ _ _ _ _ _ _ _
          refine wpAny_endM (by kernel_rfl) (by kernel_rfl) ?_
          go_wp2_with fail
          go_roundg (8 - (j + 1))
          case rel =>
            refine ⟨j + 1, _, by simp, by omega, rfl, HK6.out.set4 _, ?_⟩
            rw [HTK.out]
            have hle := HLEN.out
            have hmv := fun u => hacc6.move (w1 := w6.setCell ⟨gp, 4, none⟩ u) (fun b hb _ => heap_setCell_other _ _ _ _ (by show b ≠ gp; omega)) (by simp [World.setCell])
            rw [List.length_append, hle] at hmv
            rw [hle]
            exact hmv _
          case measure => have := HK2.out; omega
        · have hje : j = zs.length := by omega
          have hfin : ∃ u, KInv gp wa wr #[.int .i64 n, .int .i64 s, .int .i64 t, v, u, .slice none 0 0] ∧ SliceIs Rep.msg.slice true wr wa.heap.size wr.heap.size u zs := ⟨u, hk, by have := ha.slice; rwa [hje, List.take_of_length_le (Nat.le_refl _)] at this⟩
          have HF := Lib.hid hfin
          clear hfin hk ha
          by_cases hjn : j < ms.length
          · have hj7 : ¬ (j : Int) < 7 := by have := HZL.out; omega
            go_wp2_with fail
            go_meet
            exact HF.out
          · go_wp2_with fail
            go_meet
            exact HF.out
    case rest =>
      clear hk HZAT HZL
      obtain ⟨u1, hk, hu1⟩ := hcut
      have hltp := hk.lt
      have hv2 : SliceOn Rep.int true wc (cutS W wa gp) v ys := hv.keep fun b hb => hk.only.block b hb.2.1 (by intro e; injection e with e; exact hb.2.2 e)
      have hwab := hk.only.size
      have HBa := HBc
      replace HBc := Lib.hid (HBc.out.trans (hk.low hgp))
      replace hk : KInv gp wc wc #[.int .i64 n, .int .i64 s, .int .i64 t, v, u1, .slice none 0 0] := ⟨hk.p, lt_of_block hk.p, World.grownBy.refl _ _⟩
      clear hv h2
      obtain ⟨wb, rfl⟩ : ∃ x : World, x = wc := ⟨_, rfl⟩
      go_upto_block 2 with fail
      obtain ⟨zs2, hzs⟩ : ∃ zs2, zs2 = (os.take 7).map (List.take 20) := ⟨_, rfl⟩
      have hzl : zs2.length = min os.length 7 := by rw [hzs]; simp; omega
      have hzat : ∀ (j : Nat) x, os[j]? = some x → j < 7 → zs2[j]? = some (x.take 20) := fun j x hx hj => by rw [hzs, List.getElem?_map, List.getElem?_take, if_pos hj, hx]; rfl
      have HZS2 := Lib.hid hzs; clear hzs
      have HZAT := Lib.hid hzat; clear hzat
      have HZL := Lib.hid hzl; clear hzl
      go_cut [5] (fun _ wx => ∃ u, KInv gp wb wx #[.int .i64 n, .int .i64 s, .int .i64 t, v, u1, u] ∧ SliceIs Rep.int.slice true wx wb.heap.size wx.heap.size u zs2)
      case first =>
        go_wp2_with fail
        go_loopg [5] (8 : Nat) (fun k i wr => ∃ (j : Nat) (u : Value), i = .int .i64 (j : Int) ∧ j ≤ zs2.length ∧ k = 8 - j ∧ KInv gp wb wr #[.int .i64 n, .int .i64 s, .int .i64 t, v, u1, u] ∧ Acc Rep.int.slice 35 wb.heap.size wr u (zs2.take j))
        case atStart => exact ⟨0, _, rfl, by omega, by omega, hk, by simpa using Acc.nil _ _ _ _⟩
        case round =>
          clear hk
          obtain ⟨j, u, rfl, hj, hk2, hk, ha⟩ := hrel
          have HK2 := Lib.hid hk2; clear hk2
          have hbr := HBc.out.trans (hk.low hgp)
          have hbw : Below w.heap.size w wr := HB0.out.trans (hbr.mono (by omega))
          have hsz := hbr.size
          have hBr : wb.heap.size ≤ wr.heap.size := hk.only.size
          have hgpr : gp < wr.heap.size := lt_of_block hk.p
          have hlow2 : w.heap.size < wr.heap.size := by omega
          obtain ⟨k0, k1, k2, k3, k4, k5⟩ := six_cells ((hbr.block _ hlow).trans HBOX.out)
          clear k0 k1 k2 k3 k4
          have K5 := Lib.hid k5
          by_cases hlt : j < zs2.length
          · have hjn : j < os.length := by have := HZL.out; omega
            have hj7 : j < 7 := by have := HZL.out; omega
            obtain ⟨x, hx⟩ := Pc.get_at hjn
            have hzx := HZAT.out j x hx hj7
            obtain ⟨ys2, hys2⟩ : ∃ ys2, ys2 = x.take 20 := ⟨_, rfl⟩
            rw [← hys2] at hzx
            have htk := Pc.take_next hzx
            obtain ⟨g, o, vx, rfl, _, hg, c0, ⟨Ax, cx, rfl, lx, mx, hxa⟩⟩ := (h3.below hbw (Nat.le_refl _)).row hx
            have hxt := hxa.take 20
            rw [← hys2] at hxt
            have hcl2 : (min (x.length : Int) 20).toNat = ys2.length := by rw [hys2]; simp; omega
            have hyl2 : ys2.length ≤ 20 := by rw [hys2]; simp; omega
            have hn0 : (0 : Int) ≤ min (x.length : Int) 20 := by omega
            have hn1 : min (x.length : Int) 20 ≤ (cx : Int) := by omega
            have hg1 : g < wr.heap.size := by omega
            have hltB := hk.lt
            have hlowB : w.heap.size < wb.heap.size := by omega
            have hgB : g < wb.heap.size := by omega
            have C0 := Lib.hid c0
            have hlen : (zs2.take j).length = j := by simp; omega
            obtain ⟨Au, cu, rfl, _⟩ := ha.slice
            rw [hlen] at ha hk
            obtain ⟨xj, hxj⟩ : ∃ xj, xj = zs2.take j := ⟨_, rfl⟩
            rw [← hxj] at ha htk hlen
            have hxjl : xj.length ≤ 1000000 := by omega
            have kp := blk_cell hk.p 5
            simp only [List.getElem?_toArray, List.getElem?_cons_zero, List.getElem?_cons_succ] at kp
            have KP := Lib.hid kp
            have hb1 : Below wr.heap.size wr ((wr.alloc (.cells #[] 3)).drew) := ((Below.refl _ _).alloc (Nat.le_refl _) _).drew
            have o1 : ((wr.alloc (.cells #[] 3)).drew).ownsRow wr.heap.size 3 Rep.int.size (.slice (some ⟨wr.heap.size, 0, none⟩) 0 0) 0 [] := own_lit (w := wr) (size := Rep.int.size) wr.heap.size 3 0 [] (by simp) (Nat.le_refl _) (by unfold maxLen; omega)
            have a1 := hxt.below hb1 (by omega)
            have B1 := Lib.hid hb1; have O1 := Lib.hid o1; have AA1 := Lib.hid a1
            have HK := Lib.hid hk; have HA := Lib.hid ha
            have HTK := Lib.hid htk; have HLEN := Lib.hid hlen
            have i0 : (0 : Int) ≤ (j : Int) := by omega
            have i1 : (j : Int) < (os.length : Int) := by omega
            have i2 : (j : Int) < 7 := by omega
            clear hb1 o1 a1 hk ha htk hlen hxa hxt hys2 hx hzx hxj hbr hbw lx
            unfold maxLen at mx
            have ne1 : gp ≠ w.heap.size := by omega
            have ne2 : w.heap.size ≠ gp := by omega
            have ne3 : wr.heap.size ≠ w.heap.size := by omega
            have ne4 : w.heap.size ≠ wr.heap.size := by omega
            have ne5 : wr.heap.size ≠ gp := by omega
            have ne6 : gp ≠ wr.heap.size := by omega
            have ne7 : wr.heap.size ≠ g := by omega
            have ne8 : g ≠ wr.heap.size := by omega
            go_wp2_with fail
            refine region_go 65536 (by kernel_rfl) ?_
            refine wpAny_reads 65536 0 [0, 1, 3, 4, 5, 6, 7, 8, 9, 10, 11, 12, 13] 16379 8 (by kernel_rfl) (by kernel_rfl) (fun _ _ _ _ _ h => h) (by kernel_rfl) (by rfl) (by rfl) (by kernel_rfl) ?_
            simp only [List.map_cons, List.map_nil, List.getD_cons_succ, List.getD_cons_zero]
            go_wp2_with fail
            change _ → wpAnyM _ _ _ _ _ _ _ _ _ _; intro _
            refine wpAny_takeM 14 rfl (by kernel_rfl) (by rfl : 16379 ||| 2 ^ 14 = 32763) (by kernel_rfl) (by kernel_rfl) (by kernel_rfl) (by kernel_rfl) (fun _ _ _ h => h) (.inl ⟨by rfl, fun w => by (go_simp; try with_reducible rfl)⟩) ?_
            refine wpAny_reads 65536 32763 [15] 65531 6 (by kernel_rfl) (by kernel_rfl) (fun _ _ _ _ _ h => h) (by kernel_rfl) (by rfl) (by rfl) (by kernel_rfl) ?_
            simp only [List.map_cons, List.map_nil, List.getD_cons_succ, List.getD_cons_zero]
            go_wp2_with fail
            change _ → wpAnyM _ _ _ _ _ _ _ _ _ _; intro _
            refine wpAny_go 65536 65531 [2] 65535 5 (by kernel_rfl) (by kernel_rfl) (fun _ _ _ _ _ h => h) (by kernel_rfl) (by rfl) (by rfl) (by kernel_rfl) ?_
            simp only [List.map_cons, List.map_nil, List.getD_cons_succ, List.getD_cons_zero]
            go_wp2_with fail
            change wpAnyM _ _ _ _ _ _ _ _ _ _
            refine wpAny_oneM 16 131071 (by kernel_rfl) (by kernel_rfl) (of_decide_eq_true (by kernel_rfl)) (by rfl) ?_
            simp only [List.getD_cons_succ, List.getD_cons_zero]
            go_wp2_with (at_builtin; refine wpList_appendS (r := Rep.int) (ys := ys2) rfl (.tmp 66) (.tmp 79) 35 rfl wr.heap.size 3 Try.infoInt Try.underlying35 rfl _ 0 [] rfl O1.out _ _ rfl AA1.out (by unfold maxLen; omega) (by omega) (by simp) ?_; intro v2 wv news hn hown2 hg2 hb2 ha2; have hbv : Below wr.heap.size wr wv := B1.out.trans hb2; clear k5 c0 kp; have k5 := (hbv.cell (p := ⟨w.heap.size, 5, none⟩) hlow2).trans K5.out; have c0 := (hbv.cell (p := ⟨g, o + j, none⟩) hg1).trans C0.out; have kp := (hbv.cell (p := ⟨gp, 5, none⟩) hgpr).trans KP.out; have hv2 : SliceIs Rep.int true wv wr.heap.size wv.heap.size v2 ys2 := SliceIs.of_own (r := Rep.int) (base := wr.heap.size) (e := 3) (cells := news) (by simpa using hown2) (Rep.all_flat flat_int hn) (Nat.le_refl _) (Nat.le_refl _); clear hn hown2 ha2; obtain ⟨Av, cv, hve, _⟩ := id hv2; subst hve; have hvs : wr.heap.size ≤ wv.heap.size := hbv.size)
            refine ⟨fun _ => Ext.below (below_drewL hbv) (Nat.le_refl _), ?_⟩
            refine wpAny_go 65536 131071 [17, 18, 19, 20] 2097151 0 (by kernel_rfl) (by kernel_rfl) (fun _ _ _ _ _ h => h) (by kernel_rfl) (by rfl) (by rfl) (by kernel_rfl) ?_
            simp only [List.map_cons, List.map_nil, List.getD_cons_succ, List.getD_cons_zero]
            go_wp2_with (at_builtin; refine wpList_accB (r := Rep.int.slice) (w0 := wr) (xs := xj) (y := ys2) rfl (.tmp 65) (.tmp 81) 77 rfl wb.heap.size 35 Try.infoInts Try.underlying77 rfl (by omega) (.slice Au j cu) (by rfl) HA.out (fun b _ hb => hbv.block b hb) hvs hBr 1 wv.heap.size [.slice Av ys2.length cv] (by rfl) rfl ⟨_, rfl, hv2⟩ hxjl ?_; intro v6 w6 hacc6 hg6 hb6; have hk6 := HK.out.step ((hbv.mono hBr).trans hb6); have kp := blk_cell hk6.p 5; have f6 : w6.frozen? ⟨gp, 5, none⟩ = false := (by simp [World.frozen?, hk6.p]); simp only [List.getElem?_toArray, List.getElem?_cons_zero, List.getElem?_cons_succ] at kp; obtain ⟨A6, c6, hve6, _⟩ := hacc6.slice; subst hve6; have HK6 := Lib.hid hk6; clear hk6 k5 c0; have k5 := ((hbv.mono hBr).trans hb6).cell (p := ⟨w.heap.size, 5, none⟩) hlowB |>.trans K5.out; have c0 := ((hbv.mono hBr).trans hb6).cell (p := ⟨g, o + j, none⟩) hgB |>.trans C0.out)
            change wpAnyM _ _ _ _ _ _ _ _ _ _
            refine wpAny_endM (by kernel_rfl) (by kernel_rfl) ?_
            go_wp2_with fail
            go_roundg (8 - (j + 1))
            case rel =>
              refine ⟨j + 1, _, by simp, by omega, rfl, HK6.out.set5 _, ?_⟩
              rw [HTK.out]
              have hle := HLEN.out
              have hmv := fun u => hacc6.move (w1 := w6.setCell ⟨gp, 5, none⟩ u) (fun b hb _ => heap_setCell_other _ _ _ _ (by show b ≠ gp; omega)) (by simp [World.setCell])
              rw [List.length_append, hle] at hmv
              rw [hle]
              exact hmv _
            case measure => have := HK2.out; omega
          · have hje : j = zs2.length := by omega
            have hfin : ∃ u, KInv gp wb wr #[.int .i64 n, .int .i64 s, .int .i64 t, v, u1, u] ∧ SliceIs Rep.int.slice true wr wb.heap.size wr.heap.size u zs2 := ⟨u, hk, by have := ha.slice; rwa [hje, List.take_of_length_le (Nat.le_refl _)] at this⟩
            have HF := Lib.hid hfin
            clear hfin hk ha
            by_cases hjn : j < os.length
            · have hj7 : ¬ (j : Int) < 7 := by have := HZL.out; omega
              go_wp2_with fail
              go_meet
              exact HF.out
            · go_wp2_with fail
              go_meet
              exact HF.out
      case rest =>
        clear hk HZAT HZL
        obtain ⟨u2, hk, hu2⟩ := hcut
        obtain ⟨wd, rfl⟩ : ∃ x : World, x = wc := ⟨_, rfl⟩
        have hwbd := hk.only.size
        have hv3 : SliceOn Rep.int true wd (cutS W wa gp) v ys := hv2.keep fun b hb => hk.only.block b (by have := hb.2.1; omega) (by intro e; injection e with e; exact hb.2.2 e)
        have hu1' : SliceIs Rep.msg.slice true wd wa.heap.size wb.heap.size u1 zs := hu1.keep fun b hb1 hb2 => hk.only.block b hb2 (by intro e; injection e; omega)
        have hbd := HBc.out.trans (hk.low hgp)
        have hR : wd.heap[w.heap.size + 1]? = some (.cells #[.int .i64 0, .int .i64 0, .int .i64 0, .slice none 0 0, .slice none 0 0, .slice none 0 0] 79 (0, 0)) := (hbd.block _ (by have := HSZ.out; omega)).trans HRES.out
        obtain ⟨d0, d1, d2, d3, d4, d5⟩ := six_cells hk.p
        obtain ⟨f0, f1, f2, f3, f4, f5⟩ := six_free hR
        obtain ⟨e0, e1, e2, e3, e4, e5⟩ := six_cells hR
        have HR := Lib.hid hR
        have HBW := Lib.hid (HB0.out.trans (hbd.mono (by omega)))
        have HV := Lib.hid hv3; have HU1 := Lib.hid hu1'; have HU2 := Lib.hid hu2
        have hsz := HSZ.out
        have hWd := hbd.size
        clear hR hv2 hv3 hu1 hu1' hu2 hbd hk HBc HBa h3
        obtain ⟨Av, cv, rfl, _⟩ := id HV.out
        obtain ⟨A4, c4, rfl, _⟩ := id HU1.out
        obtain ⟨A5, c5, rfl, _⟩ := id HU2.out
        go_wp2_with fail
        have r := six_set HR.out (.int .i64 n) (.int .i64 s) (.int .i64 t) (.slice Av ys.length cv) (.slice A4 zs.length c4) (.slice A5 zs2.length c5)
        obtain ⟨g0, g1, g2, g3, g4, g5⟩ := six_cells r
        have hke : ∀ b, b ≠ w.heap.size + 1 → ((((((wd.setCell ⟨w.heap.size + 1, 0, none⟩ (.int .i64 n)).setCell ⟨w.heap.size + 1, 1, none⟩ (.int .i64 s)).setCell ⟨w.heap.size + 1, 2, none⟩ (.int .i64 t)).setCell ⟨w.heap.size + 1, 3, none⟩ (.slice Av ys.length cv)).setCell ⟨w.heap.size + 1, 4, none⟩ (.slice A4 zs.length c4)).setCell ⟨w.heap.size + 1, 5, none⟩ (.slice A5 zs2.length c5)).heap[b]? = wd.heap[b]? := by
          intro b hb
          have o : ∀ (w0 : World) (i : Nat) (u : Value), (w0.setCell ⟨w.heap.size + 1, i, none⟩ u).heap[b]? = w0.heap[b]? := fun w0 i u => heap_setCell_other _ _ _ _ (fun e => hb e)
          rw [o, o, o, o, o, o]
        refine bodyPost_ret (v := .agg #[.int .i64 n, .int .i64 s, .int .i64 t, .slice Av ys.length cv, .slice A4 zs.length c4, .slice A5 zs2.length c5]) (by simp [results, Try.results38, go_sem, g0, g1, g2, g3, g4, g5]) rfl ⟨⟨_, rfl, ?_⟩, six_below HBW.out (Nat.le_succ _) _ _ _ _ _ _⟩
        have hsz6 := (six_keeps (w := wd) (w0 := wd) (gp := w.heap.size + 1) (R := w.heap.size + 1) ⟨Nat.le_refl _, fun _ _ _ => rfl⟩ (Nat.le_refl _) (.int .i64 n) (.int .i64 s) (.int .i64 t) (.slice Av ys.length cv) (.slice A4 zs.length c4) (.slice A5 zs2.length c5)).1
        refine ⟨_, _, _, rfl, ?_, ?_, ?_⟩
        · show SliceIs Rep.int true _ _ _ _ (xs.take 7)
          rw [← HYS.out]
          exact SliceOn.is_ ((HV.out.keep fun b hb => hke b (by have := hb.1; omega)).widen fun b hb => ⟨by have := hb.1; omega, by have := hb.2.1; omega⟩)
        · show SliceIs Rep.msg.slice true _ _ _ _ ((ms.take 7).map (List.take 20))
          rw [← HZS1.out]
          exact (HU1.out.keep fun b hb1 _ => hke b (by omega)).widen (by omega) (by omega)
        · show SliceIs Rep.int.slice true _ _ _ _ ((os.take 7).map (List.take 20))
          rw [← HZS2.out]
          exact (HU2.out.keep fun b hb1 _ => hke b (by omega)).widen (by omega) (by omega)
end Go.Proofs.Ytkkbblpofhenpaa

/- Words for long walks: boxes, pieces that are carried from world to world. -/
namespace Go.Proofs.Ytkkbblpofhenpaa
open Go.RowKit

theorem name_call {P : Program} {f : FuncId} {args : Array Value} {w : World} {R : Ending → World → Prop} (h : ∀ W, w = W → Calls P f args W R) : Calls P f args w R := h w rfl
theorem name_wp {P : Program} {c : Code} {a : Act} {w : World} {Q : Exit → Act → World → Prop} (h : ∀ W, w = W → Code.wp P c Q a W) : Code.wp P c Q a w := h w rfl

/-- Block b holds these cells. -/
def Box (w : World) (b : Nat) (cs : Array Value) (T : TypeId) : Prop := w.heap[b]? = some (.cells cs T (0, 0))
section
variable {w w' : World} {b : Nat} {cs : Array Value} {T : TypeId} {x0 x1 x2 x3 x4 x5 : Value}
theorem Box.lt (h : Box w b cs T) : b < w.heap.size := lt_of_block h
theorem Box.next (h : Box w b cs T) (hb : Below w.heap.size w w') : Box w' b cs T := (hb.block b h.lt).trans h
theorem Box.six (h : Box w b #[x0, x1, x2, x3, x4, x5] T) : w.cell? ⟨b, 0, none⟩ = some x0 ∧ w.cell? ⟨b, 1, none⟩ = some x1 ∧ w.cell? ⟨b, 2, none⟩ = some x2 ∧ w.cell? ⟨b, 3, none⟩ = some x3 ∧ w.cell? ⟨b, 4, none⟩ = some x4 ∧ w.cell? ⟨b, 5, none⟩ = some x5 := six_cells h
theorem Box.free (h : Box w b #[x0, x1, x2, x3, x4, x5] T) : w.frozen? ⟨b, 0, none⟩ = false ∧ w.frozen? ⟨b, 1, none⟩ = false ∧ w.frozen? ⟨b, 2, none⟩ = false ∧ w.frozen? ⟨b, 3, none⟩ = false ∧ w.frozen? ⟨b, 4, none⟩ = false ∧ w.frozen? ⟨b, 5, none⟩ = false := six_free h
theorem Box.new (w : World) (cs : Array Value) (T : TypeId) : Box (w.alloc (.cells cs T)) w.heap.size cs T := heap_alloc_new _ _
theorem Box.alloc (h : Box w b cs T) (o : Obj) : Box (w.alloc o) b cs T := (heap_alloc_old _ _ h.lt).trans h
/-- A world in which six cells of block b were written. -/
def wsix (w : World) (b : Nat) (a0 a1 a2 a3 a4 a5 : Value) : World := (((((w.setCell ⟨b, 0, none⟩ a0).setCell ⟨b, 1, none⟩ a1).setCell ⟨b, 2, none⟩ a2).setCell ⟨b, 3, none⟩ a3).setCell ⟨b, 4, none⟩ a4).setCell ⟨b, 5, none⟩ a5
variable {a0 a1 a2 a3 a4 a5 : Value}
theorem six_box (h : Box w b #[x0, x1, x2, x3, x4, x5] T) : Box (wsix w b a0 a1 a2 a3 a4 a5) b #[a0, a1, a2, a3, a4, a5] T := six_set h _ _ _ _ _ _
theorem six_far {k : Nat} (hk : k ≠ b) : (wsix w b a0 a1 a2 a3 a4 a5).heap[k]? = w.heap[k]? := by
  have o : ∀ (w0 : World) (i : Nat) (u : Value), (w0.setCell ⟨b, i, none⟩ u).heap[k]? = w0.heap[k]? := fun w0 i u => heap_setCell_other _ _ _ _ hk
  unfold wsix; rw [o, o, o, o, o, o]
theorem six_size : (wsix w b a0 a1 a2 a3 a4 a5).heap.size = w.heap.size := by simp [wsix, World.setCell]
theorem six_below' {B : Nat} {w0 : World} (h : Below B w0 w) (hB : B ≤ b) : Below B w0 (wsix w b a0 a1 a2 a3 a4 a5) := six_below h hB _ _ _ _ _ _
theorem Box.six_far {k : Nat} (h : Box w k cs T) (hk : k ≠ b) : Box (wsix w b a0 a1 a2 a3 a4 a5) k cs T := (Go.Proofs.Ytkkbblpofhenpaa.six_far hk).trans h
end
section
variable {fr : Bool} {w w' : World} {lo lo' : Nat} {v : Value} {p : Pc.Piece} {b : Nat} {a0 a1 a2 a3 a4 a5 : Value}
theorem PieceIs.next (h : PieceIs fr w lo w.heap.size v p) (hb : Below w.heap.size w w') : PieceIs fr w' lo w'.heap.size v p := (h.below hb (Nat.le_refl _)).widen (Nat.le_refl _) hb.size
theorem PieceIs.zero_ (h : PieceIs fr w lo w.heap.size v p) : PieceIs false w 0 w.heap.size v p := (h.widen (Nat.zero_le _) (Nat.le_refl _)).soft
theorem PieceIs.six_far (h : PieceIs fr w lo w.heap.size v p) (hk : b < lo) : PieceIs fr (wsix w b a0 a1 a2 a3 a4 a5) lo (wsix w b a0 a1 a2 a3 a4 a5).heap.size v p := by
  rw [six_size]; exact h.keep fun k h1 _ => Go.Proofs.Ytkkbblpofhenpaa.six_far (by omega)
end
theorem SliceOn.of_block {α : Type} {r : Rep α} {fr : Bool} {w : World} {S : Nat → Prop} {g n c : Nat} {e : TypeId} {cells : List Value} {xs : List α} (h : w.heap[g]? = some (.cells cells.toArray e (0, 0))) (ha : r.all fr w S cells xs) (hS : S g)
    (hn : n = xs.length) (hl : xs.length ≤ c) (hm : c ≤ maxLen) : SliceOn r fr w S (.slice (some ⟨g, 0, none⟩) n c) xs := by
  subst hn
  refine ⟨_, c, rfl, hl, hm, cells, ha, fun _ => ⟨g, 0, rfl, hS, fun j u hj => ⟨?_, fun _ => by simp [World.frozen?, h]⟩⟩⟩
  rw [Nat.zero_add, cell_of_row w g j cells.toArray e (0, 0) h]
  simpa using hj
theorem Pc.cut_sized (p : Pc.Piece) : Pc.sized (Pc.cut p) := by
  refine ⟨?_, ?_, ?_, fun x hx => ?_, fun x hx => ?_⟩
  · simp [Pc.cut]; omega
  · simp [Pc.cut]; omega
  · simp [Pc.cut]; omega
  · simp only [Pc.cut, List.mem_map] at hx
    obtain ⟨y, _, rfl⟩ := hx
    simp; omega
  · simp only [Pc.cut, List.mem_map] at hx
    obtain ⟨y, _, rfl⟩ := hx
    simp; omega
end Go.Proofs.Ytkkbblpofhenpaa

/- Frames in memory; slices.EqualFunc of pieces. -/
namespace Go.Proofs.Ytkkbblpofhenpaa
open Go.RowKit

section
variable {fr : Bool} {w w' : World} {lo hi k lo' hi' : Nat} {A : Option Addr}
theorem SliceAt.piece {xs : List Pc.Piece} {x : Pc.Piece} (h : SliceAt Rep.piece fr w lo hi A xs) (hx : xs[k]? = some x) :
    ∃ g o a b c, A = some ⟨g, o, none⟩ ∧ lo ≤ g ∧ g < hi ∧ w.cell? ⟨g, o + k * 6, none⟩ = some (.int .i64 x.node) ∧ w.cell? ⟨g, o + k * 6 + 1, none⟩ = some (.int .i64 x.state) ∧ w.cell? ⟨g, o + k * 6 + 2, none⟩ = some (.int .i64 x.steps) ∧
      w.cell? ⟨g, o + k * 6 + 3, none⟩ = some a ∧ w.cell? ⟨g, o + k * 6 + 4, none⟩ = some b ∧ w.cell? ⟨g, o + k * 6 + 5, none⟩ = some c ∧ PieceIs fr w lo hi (.agg #[.int .i64 x.node, .int .i64 x.state, .int .i64 x.steps, a, b, c]) x := by
  obtain ⟨g, o, cs, rfl, h1, ⟨a, b, c, rfl, h3⟩, h4⟩ := AtOn.at_ h hx
  have e : ∀ i u, [Value.int .i64 x.node, .int .i64 x.state, .int .i64 x.steps, a, b, c][i]? = some u → w.cell? ⟨g, o + k * 6 + i, none⟩ = some u := fun i u hi => by simpa [Rep.piece, Nat.add_assoc] using (h4 i u hi).1
  exact ⟨g, o, a, b, c, rfl, h1.1, h1.2, e 0 _ rfl, e 1 _ rfl, e 2 _ rfl, e 3 _ rfl, e 4 _ rfl, e 5 _ rfl, a, b, c, rfl, h3⟩
/-- A frame by value. -/
def FrIs (fr : Bool) (w : World) (lo hi : Nat) (v : Value) (f : Fr) : Prop :=
  ∃ A B k l, v = .agg #[.int .i64 f.kind, .int .i64 f.epoch, .int .i64 f.seq, .int .i64 f.letter, .slice A f.pieces.length k, .int .i64 f.init, .int .i64 f.num, .int .i64 f.count, .slice B f.path.length l] ∧
    SliceIs Rep.piece fr w lo hi (.slice A f.pieces.length k) f.pieces ∧ SliceIs Rep.int fr w lo hi (.slice B f.path.length l) f.path
variable {v : Value} {f : Fr}
theorem FrIs.keep (h : FrIs fr w lo hi v f) (hk : ∀ b, lo ≤ b → b < hi → w'.heap[b]? = w.heap[b]?) : FrIs fr w' lo hi v f := by
  obtain ⟨A, B, k, l, rfl, h1, h2⟩ := h; exact ⟨A, B, k, l, rfl, h1.keep hk, h2.keep hk⟩
theorem FrIs.widen (h : FrIs fr w lo hi v f) (k1 : lo' ≤ lo) (k2 : hi ≤ hi') : FrIs fr w lo' hi' v f := by
  obtain ⟨A, B, k, l, rfl, h1, h2⟩ := h; exact ⟨A, B, k, l, rfl, h1.widen k1 k2, h2.widen k1 k2⟩
theorem FrIs.soft (h : FrIs fr w lo hi v f) : FrIs false w lo hi v f := by
  obtain ⟨A, B, k, l, rfl, h1, h2⟩ := h; exact ⟨A, B, k, l, rfl, h1.soft, h2.soft⟩
theorem FrIs.next (h : FrIs fr w lo w.heap.size v f) (hb : Below w.heap.size w w') : FrIs fr w' lo w'.heap.size v f := (h.keep fun b _ h2 => hb.block b h2).widen (Nat.le_refl _) hb.size
theorem FrIs.of {a b : Value} (h1 : SliceIs Rep.piece fr w lo hi a f.pieces) (h2 : SliceIs Rep.int fr w lo hi b f.path) :
    FrIs fr w lo hi (.agg #[.int .i64 f.kind, .int .i64 f.epoch, .int .i64 f.seq, .int .i64 f.letter, a, .int .i64 f.init, .int .i64 f.num, .int .i64 f.count, b]) f := by
  obtain ⟨A, k, rfl, q1⟩ := id h1
  obtain ⟨B, l, rfl, q2⟩ := id h2
  exact ⟨A, B, k, l, rfl, h1, h2⟩
end

theorem eqfPieces_apart (v u : Value) (xs ys : List Pc.Piece) (w : World) (h : SliceIs Rep.piece false w 0 w.heap.size v xs) (h' : SliceIs Rep.piece false w 0 w.heap.size u ys) (hne : xs.length ≠ ys.length) :
    Calls Try.prog 110 #[v, u, .func (.func 46) #[] #[]] w fun x w' => x = .returned (.bool false) ∧ Below w.heap.size w w' := by
  obtain ⟨A, c, rfl, l1, m1, _⟩ := h
  obtain ⟨A', c', rfl, l2, m2, _⟩ := h'
  have e : (((xs.length : Nat) : Int) != ((ys.length : Nat) : Int)) = true := by rw [bne_iff_ne]; omega
  clear hne
  unfold maxLen at m1 m2
  go_enter Try.func110, Try.ntmps110
  go_wp2_with fail
  go_ret
  exact ⟨rfl, Below.refl _ _⟩

set_option maxRecDepth 100000 in
set_option maxHeartbeats 2000000 in
theorem eqfPieces_like (v u : Value) (xs ys : List Pc.Piece) (w : World) (h : SliceIs Rep.piece false w 0 w.heap.size v xs) (h' : SliceIs Rep.piece false w 0 w.heap.size u ys) (hne : xs.length = ys.length) :
    Calls Try.prog 110 #[v, u, .func (.func 46) #[] #[]] w fun x w' => x = .returned (.bool (decide (xs = ys))) ∧ Below w.heap.size w w' := by
  obtain ⟨A, c, rfl, l1, m1, h1⟩ := h
  obtain ⟨A', c', rfl, l2, m2, h2⟩ := h'
  rw [← hne] at l2 ⊢
  have HN := Lib.hid hne; clear hne
  generalize hd : decide (xs = ys) = d
  have HD := Lib.hid hd; clear hd
  unfold maxLen at m1 m2
  go_enter Try.func110, Try.ntmps110
  go_wp2_with fail
  go_loopg [17] xs.length (fun k i wr => ∃ j : Nat, i = .int .i64 (j : Int) ∧ j ≤ xs.length ∧ k = xs.length - j ∧ xs.take j = ys.take j ∧ Below w.heap.size w wr)
  case atStart => exact ⟨0, rfl, by omega, by omega, rfl, Below.refl _ _⟩
  case round =>
    obtain ⟨j, rfl, hj, hk, hl, hb⟩ := hrel
    have HL := Lib.hid hl; clear hl
    have HK := Lib.hid hk; clear hk
    by_cases hlt : j < xs.length
    · obtain ⟨x, hx⟩ := Pc.get_at hlt
      obtain ⟨y, hy⟩ := Pc.get_at (l := ys) (j := j) (by have := HN.out; omega)
      obtain ⟨g, o, a3, a4, a5, rfl, _, hg, c0, c1, c2, c3, c4, c5, hp⟩ := (h1.below hb (Nat.le_refl _)).piece hx
      obtain ⟨g', o', b3, b4, b5, rfl, _, hg', d0, d1, d2, d3, d4, d5, hq⟩ := (h2.below hb (Nat.le_refl _)).piece hy
      have HX := Lib.hid hx; clear hx
      have HY := Lib.hid hy; clear hy
      clear h1 h2
      have hsz := hb.size
      obtain ⟨_, _, _, he, q3, q4, q5⟩ := id hp
      cases he
      obtain ⟨A3, k3, rfl, _⟩ := q3
      obtain ⟨A4, k4, rfl, _⟩ := q4
      obtain ⟨A5, k5, rfl, _⟩ := q5
      obtain ⟨_, _, _, he, q3, q4, q5⟩ := id hq
      cases he
      obtain ⟨B3, l3, rfl, _⟩ := q3
      obtain ⟨B4, l4, rfl, _⟩ := q4
      obtain ⟨B5, l5, rfl, _⟩ := q5
      have HP := Lib.hid hp; have HQ := Lib.hid hq; clear hp hq
      have hgw : g < wr.heap.size := by omega
      have hgw' : g' < wr.heap.size := by omega
      go_upto_region 7 with fail
      clear c0 c1 c2 c3 c4 c5 d0 d1 d2 d3 d4 d5
      refine name_wp fun V hV => ?_
      have hbV : Below wr.heap.size wr V := hV ▸ ((Below.refl _ _).alloc (Nat.le_refl _) _).alloc (by simp) _
      have bx0 : Box V wr.heap.size #[.int .i64 x.node, .int .i64 x.state, .int .i64 x.steps, .slice A3 x.sent.length k3, .slice A4 x.inn.length k4, .slice A5 x.out.length k5] 79 := hV ▸ (Box.new _ _ _).alloc _
      have bx1 : Box V (wr.heap.size + 1) #[.int .i64 y.node, .int .i64 y.state, .int .i64 y.steps, .slice B3 y.sent.length l3, .slice B4 y.inn.length l4, .slice B5 y.out.length l5] 79 := by
        rw [← hV]
        have h0 := Box.new (wr.alloc (.cells #[.int .i64 x.node, .int .i64 x.state, .int .i64 x.steps, .slice A3 x.sent.length k3, .slice A4 x.inn.length k4, .slice A5 x.out.length k5] 79)) #[.int .i64 y.node, .int .i64 y.state, .int .i64 y.steps, .slice B3 y.sent.length l3, .slice B4 y.inn.length l4, .slice B5 y.out.length l5] 79
        rw [World.size_alloc] at h0
        exact h0
      clear hV
      have hp2 := ((HP.out.below (hbV.mono hsz) (Nat.le_refl _)).widen (Nat.le_refl 0) (Nat.le_trans hsz hbV.size))
      have hq2 := ((HQ.out.below (hbV.mono hsz) (Nat.le_refl _)).widen (Nat.le_refl 0) (Nat.le_trans hsz hbV.size))
      obtain ⟨c0, c1, c2, c3, c4, c5⟩ := bx0.six
      obtain ⟨d0, d1, d2, d3, d4, d5⟩ := bx1.six
      go_wp2_with fail
      clear c0 c1 c2 c3 c4 c5 d0 d1 d2 d3 d4 d5
      refine (same_any _ _ x y _ hp2 hq2).mono ?_
      rintro e w1 ⟨rfl, hb1⟩
      replace hb := (hb.trans (hbV.mono hsz)).trans (hb1.mono (Nat.le_trans hsz hbV.size))
      clear hb1 hsz hbV hp2 hq2 bx0 bx1
      cases hxy : decide (x = y)
      · have HXY := Lib.hid (of_decide_eq_false hxy); clear hxy
        go_wp2_with fail
        go_ret
        exact ⟨by rw [← HD.out, Pc.like_no HX.out HY.out HXY.out]; rfl, hb⟩
      · have HXY := Lib.hid (of_decide_eq_true hxy); clear hxy
        go_wp2_with fail
        go_roundg (xs.length - (j + 1))
        case rel => exact ⟨j + 1, by simp, by omega, rfl, Pc.like_next HL.out HX.out (by rw [HXY.out]; exact HY.out), hb⟩
        case measure => have := HK.out; omega
    · go_wp2_with fail
      go_ret
      exact ⟨by rw [← HD.out, Pc.like_end HN.out hlt HL.out]; rfl, hb⟩

theorem eqfPieces_any (v u : Value) (xs ys : List Pc.Piece) (w : World) (h : SliceIs Rep.piece false w 0 w.heap.size v xs) (h' : SliceIs Rep.piece false w 0 w.heap.size u ys) :
    Calls Try.prog 110 #[v, u, .func (.func 46) #[] #[]] w fun x w' => x = .returned (.bool (decide (xs = ys))) ∧ Below w.heap.size w w' := by
  by_cases hne : xs.length = ys.length
  · exact eqfPieces_like v u xs ys w h h' hne
  · rw [Pc.like_len hne]
    exact eqfPieces_apart v u xs ys w h h' hne
end Go.Proofs.Ytkkbblpofhenpaa

/- The document's Same, for pieces. -/
namespace Go.Proofs.Ytkkbblpofhenpaa
open Go.RowKit

set_option maxRecDepth 100000 in
set_option maxHeartbeats 4000000 in
theorem rsame_any (v u : Value) (p q : Pc.Piece) (w : World) (h : PieceIs false w 0 w.heap.size v p) (h' : PieceIs false w 0 w.heap.size u q) : Calls Try.prog 47 #[v, u] w
    fun x w' => x = .returned (.bool (decide (p = q))) ∧ Below w.heap.size w w' := by
  obtain ⟨n, s, t, xs, ms, os⟩ := p
  obtain ⟨n', s', t', xs', ms', os'⟩ := q
  obtain ⟨a, b, c, rfl, h1, h2, h3⟩ := h
  obtain ⟨a', b', c', rfl, h1', h2', h3'⟩ := h'
  dsimp only at h1 h2 h3 h1' h2' h3' ⊢
  have hn := @Pc.same_no ⟨n, s, t, xs, ms, os⟩ ⟨n', s', t', xs', ms', os'⟩
  dsimp only at hn
  have hy : n = n' → s = s' → t = t' → xs = xs' → ms = ms' → os = os' → decide ((⟨n, s, t, xs, ms, os⟩ : Pc.Piece) = ⟨n', s', t', xs', ms', os'⟩) = true := by rintro rfl rfl rfl rfl rfl rfl; exact decide_eq_true rfl
  generalize decide ((⟨n, s, t, xs, ms, os⟩ : Pc.Piece) = ⟨n', s', t', xs', ms', os'⟩) = d at hn hy ⊢
  have HN := Lib.hid hn; clear hn
  have HY := Lib.hid hy; clear hy
  have hb0 : Below w.heap.size w ((w.alloc (.cells #[.int .i64 n, .int .i64 s, .int .i64 t, a, b, c] 84)).alloc (.cells #[.int .i64 n', .int .i64 s', .int .i64 t', a', b', c'] 84)) := below_2 _ _ _
  by_cases e1 : n = n'
  · subst e1
    have b1 : (n != n) = false := by simp
    by_cases e2 : s = s'
    · subst e2
      have b2 : (s != s) = false := by simp
      by_cases e3 : t = t'
      · subst e3
        have b3 : (t != t) = false := by simp
        obtain ⟨A2, c2, rfl, l2, m2, k2⟩ := h2
        obtain ⟨A2', c2', rfl, l2', m2', k2'⟩ := h2'
        obtain ⟨A3, c3, rfl, l3, m3, k3⟩ := h3
        obtain ⟨A3', c3', rfl, l3', m3', k3'⟩ := h3'
        unfold maxLen at m2 m2' m3 m3'
        have H1 := Lib.hid h1; have H2 := Lib.hid k2; have H3 := Lib.hid k3; have H1' := Lib.hid h1'; have H2' := Lib.hid k2'; have H3' := Lib.hid k3'
        clear h1 k2 k3 h1' k2' k3'
        go_enter Try.func47, Try.ntmps47
        go_wp2_with fail
        refine (rints_any a a' xs xs' _ ((H1.out.below hb0 (Nat.le_refl _)).widen (Nat.le_refl _) hb0.size) ((H1'.out.below hb0 (Nat.le_refl _)).widen (Nat.le_refl _) hb0.size)).mono ?_
        rintro e w1 ⟨rfl, hq⟩
        replace hb0 := hb0.trans (hq.below (B := w.heap.size))
        have bb := hq.below (B := w.heap.size + 2)
        have kb : w1.cell? ⟨w.heap.size, 4, none⟩ = some (.slice A2 ms.length c2) := (bb.cell (by simp)).trans (by simp [go_sem])
        have kb' : w1.cell? ⟨w.heap.size + 1, 4, none⟩ = some (.slice A2' ms'.length c2') := (bb.cell (by simp)).trans (by simp [go_sem])
        cases d1 : decide (xs = xs')
        · have D1 := Lib.hid (of_decide_eq_false d1); clear d1
          go_wp2_with fail
          go_ret
          exact ⟨by rw [HN.out (fun h => D1.out h.2.2.2.1)]; rfl, hb0⟩
        · have D1 := Lib.hid (of_decide_eq_true d1); clear d1
          by_cases e4 : ms.length = ms'.length
          · have b4 : ((ms.length : Int) != (ms'.length : Int)) = false := by simp [e4]
            have E4 := Lib.hid e4; clear e4
            have kc : w1.cell? ⟨w.heap.size, 5, none⟩ = some (.slice A3 os.length c3) := (bb.cell (by simp)).trans (by simp [go_sem])
            have kc' : w1.cell? ⟨w.heap.size + 1, 5, none⟩ = some (.slice A3' os'.length c3') := (bb.cell (by simp)).trans (by simp [go_sem])
            by_cases e5 : os.length = os'.length
            · have b5 : ((os.length : Int) != (os'.length : Int)) = false := by simp [e5]
              have E5 := Lib.hid e5; clear e5
              go_wp2_with fail
              clear b4 b5
              have KB := Lib.hid kb; have KB' := Lib.hid kb'; have KC := Lib.hid kc; have KC' := Lib.hid kc'
              clear kb kb' kc kc'
              have hw1 : w1.heap.size = w.heap.size + 2 := by rw [hq.size]; simp
              have HW1 := Lib.hid hw1; clear hw1 hq
              have H2w := Lib.hid (H2.out.below hb0 (Nat.le_refl _)); have H2w' := Lib.hid (H2'.out.below hb0 (Nat.le_refl _))
              have H3w := Lib.hid (H3.out.below hb0 (Nat.le_refl _)); have H3w' := Lib.hid (H3'.out.below hb0 (Nat.le_refl _))
              clear H2 H2' H3 H3' H1 H1'
              go_loopg [5] ms.length (fun k i wr => ∃ j : Nat, i = .int .i64 (j : Int) ∧ j ≤ ms.length ∧ k = ms.length - j ∧ ms.take j = ms'.take j ∧ Quiet w1 wr)
              case atStart => exact ⟨0, rfl, by omega, by omega, rfl, Quiet.refl _⟩
              case round =>
                obtain ⟨j, rfl, hj, hk, hl, hr⟩ := hrel
                have HL := Lib.hid hl; clear hl
                have HK := Lib.hid hk; clear hk
                have kb : wr.cell? ⟨w.heap.size, 4, none⟩ = some (.slice A2 ms.length c2) := (cell_of_block (by rw [hr.heap])).trans KB.out
                have kb' : wr.cell? ⟨w.heap.size + 1, 4, none⟩ = some (.slice A2' ms'.length c2') := (cell_of_block (by rw [hr.heap])).trans KB'.out
                have hrs := hr.size
                by_cases hlt : j < ms.length
                · have hlt' : j < ms'.length := by have := E4.out; omega
                  obtain ⟨x, hx⟩ := Pc.get_at hlt
                  obtain ⟨y, hy⟩ := Pc.get_at hlt'
                  obtain ⟨g, o, vx, rfl, _, _, c0, hvx⟩ := (hr.at_ H2w.out).row hx
                  obtain ⟨g', o', vy, rfl, _, _, c0', hvy⟩ := (hr.at_ H2w'.out).row hy
                  have HX := Lib.hid hx; clear hx
                  have HY2 := Lib.hid hy; clear hy
                  have hc := fun n => msgs_any vx vy x y (wr.drewN n) ((hvx.widen (hi' := wr.heap.size) (Nat.le_refl _) (by have := HW1.out; omega)).keep (fun _ _ _ => rfl)) ((hvy.widen (hi' := wr.heap.size) (Nat.le_refl _) (by have := HW1.out; omega)).keep (fun _ _ _ => rfl))
                  have HC := Lib.hid hc; clear hc hvx hvy hrs
                  generalize hz : decide (x = y) = z at HC
                  have HZ := Lib.hid hz; clear hz
                  cases z
                  · go_wp2_with fail
                    go_quiet ((go_at_call 31; exact Calls.quiet_of (HC.out _)))
                    go_wp2_with fail
                    go_ret
                    exact ⟨by rw [HN.out (fun h => (of_decide_eq_false HZ.out) (by have := HX.out; rw [h.2.2.2.2.1, HY2.out] at this; injection this with this; exact this.symm))]; rfl, hb0.trans ((hr.drewN _).below)⟩
                  · go_wp2_with fail
                    go_quiet ((go_at_call 31; exact Calls.quiet_of (HC.out _)))
                    go_wp2_with fail
                    go_roundg (ms.length - (j + 1))
                    case rel => exact ⟨j + 1, by simp, by omega, rfl, Pc.like_next HL.out HX.out (by rw [of_decide_eq_true HZ.out]; exact HY2.out), hr.drewN _⟩
                    case measure => have := HK.out; omega
                · have D2 := Lib.hid (of_decide_eq_true (Pc.like_end E4.out hlt HL.out))
                  clear HL HK H2w H2w'
                  go_wp2_with fail
                  clear kb kb' hrs hlt hj
                  go_loopg [6] os.length (fun k i wr => ∃ j : Nat, i = .int .i64 (j : Int) ∧ j ≤ os.length ∧ k = os.length - j ∧ os.take j = os'.take j ∧ Quiet w1 wr)
                  case atStart => exact ⟨0, rfl, by omega, by omega, rfl, hr⟩
                  case round =>
                    clear hr
                    obtain ⟨j, rfl, hj, hk, hl, hr⟩ := hrel
                    have HL := Lib.hid hl; clear hl
                    have HK := Lib.hid hk; clear hk
                    have kb : wr.cell? ⟨w.heap.size, 5, none⟩ = some (.slice A3 os.length c3) := (cell_of_block (by rw [hr.heap])).trans KC.out
                    have kb' : wr.cell? ⟨w.heap.size + 1, 5, none⟩ = some (.slice A3' os'.length c3') := (cell_of_block (by rw [hr.heap])).trans KC'.out
                    have hrs := hr.size
                    by_cases hlt : j < os.length
                    · have hlt' : j < os'.length := by have := E5.out; omega
                      obtain ⟨x, hx⟩ := Pc.get_at hlt
                      obtain ⟨y, hy⟩ := Pc.get_at hlt'
                      obtain ⟨g, o, vx, rfl, _, _, c0, hvx⟩ := (hr.at_ H3w.out).row hx
                      obtain ⟨g', o', vy, rfl, _, _, c0', hvy⟩ := (hr.at_ H3w'.out).row hy
                      have HX := Lib.hid hx; clear hx
                      have HY2 := Lib.hid hy; clear hy
                      have hc := fun n => rints_any vx vy x y (wr.drewN n) ((hvx.widen (hi' := wr.heap.size) (Nat.le_refl _) (by have := HW1.out; omega)).keep (fun _ _ _ => rfl)) ((hvy.widen (hi' := wr.heap.size) (Nat.le_refl _) (by have := HW1.out; omega)).keep (fun _ _ _ => rfl))
                      have HC := Lib.hid hc; clear hc hvx hvy hrs
                      generalize hz : decide (x = y) = z at HC
                      have HZ := Lib.hid hz; clear hz
                      cases z
                      · go_wp2_with fail
                        go_quiet ((go_at_call 65; exact Calls.quiet_of (HC.out _)))
                        go_wp2_with fail
                        go_ret
                        exact ⟨by rw [HN.out (fun h => (of_decide_eq_false HZ.out) (by have := HX.out; rw [h.2.2.2.2.2, HY2.out] at this; injection this with this; exact this.symm))]; rfl, hb0.trans ((hr.drewN _).below)⟩
                      · go_wp2_with fail
                        go_quiet ((go_at_call 65; exact Calls.quiet_of (HC.out _)))
                        go_wp2_with fail
                        go_roundg (os.length - (j + 1))
                        case rel => exact ⟨j + 1, by simp, by omega, rfl, Pc.like_next HL.out HX.out (by rw [of_decide_eq_true HZ.out]; exact HY2.out), hr.drewN _⟩
                        case measure => have := HK.out; omega
                    · have D3 := Lib.hid (of_decide_eq_true (Pc.like_end E5.out hlt HL.out))
                      go_wp2_with fail
                      go_ret
                      exact ⟨by rw [HY.out (by simp) (by simp) (by simp) D1.out D2.out D3.out]; rfl, hb0.trans hr.below⟩
            · have b5 : ((os.length : Int) != (os'.length : Int)) = true := by rw [bne_iff_ne]; omega
              have E5 := Lib.hid e5; clear e5
              go_wp2_with fail
              go_ret
              exact ⟨by rw [HN.out (fun h => E5.out (by rw [h.2.2.2.2.2]))]; rfl, hb0⟩
          · have b4 : ((ms.length : Int) != (ms'.length : Int)) = true := by rw [bne_iff_ne]; omega
            have E4 := Lib.hid e4; clear e4
            go_wp2_with fail
            go_ret
            exact ⟨by rw [HN.out (fun h => E4.out (by rw [h.2.2.2.2.1]))]; rfl, hb0⟩
      · have b3 : (t != t') = true := by simpa using e3
        have E3 := Lib.hid e3; clear e3 h1 h2 h3 h1' h2' h3'
        go_enter Try.func47, Try.ntmps47
        go_wp2_with fail
        go_ret
        exact ⟨by rw [HN.out (fun h => E3.out h.2.2.1)]; rfl, hb0⟩
    · have b2 : (s != s') = true := by simpa using e2
      have E2 := Lib.hid e2; clear e2 h1 h2 h3 h1' h2' h3'
      go_enter Try.func47, Try.ntmps47
      go_wp2_with fail
      go_ret
      exact ⟨by rw [HN.out (fun h => E2.out h.2.1)]; rfl, hb0⟩
  · have b1 : (n != n') = true := by simpa using e1
    have E1 := Lib.hid e1; clear e1 h1 h2 h3 h1' h2' h3'
    go_enter Try.func47, Try.ntmps47
    go_wp2_with fail
    go_ret
    exact ⟨by rw [HN.out (fun h => E1.out h.1)]; rfl, hb0⟩

end Go.Proofs.Ytkkbblpofhenpaa
