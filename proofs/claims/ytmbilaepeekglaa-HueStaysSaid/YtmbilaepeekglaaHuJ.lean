/- The document's host.own, Piece, Turn. -/
import Derived.Test.YtmbilaepeekglaaHuI
namespace Go.Proofs.Ytmbilaepeekglaa
open Go.RowKit Go.Maps
set_option linter.unusedVariables false

/-- Since wc only block gp has turned: it holds the cells cs. -/
structure OInv (T : TypeId) (gp : Nat) (wc w : World) (cs : Array Value) : Prop where
  p : Box w gp cs T
  lt : gp < wc.heap.size
  only : wc.grownBy w (some gp)
section
variable {T : TypeId} {gp : Nat} {wc w w' : World} {cs : Array Value} {x0 x1 x2 x3 x4 : Value}
theorem OInv.refl (h : Box wc gp cs T) : OInv T gp wc wc cs := ⟨h, h.lt, World.grownBy.refl _ _⟩
theorem OInv.step (h : OInv T gp wc w cs) (hb : Below wc.heap.size w w') : OInv T gp wc w' cs :=
  ⟨(hb.block gp h.lt).trans h.p, h.lt, ⟨hb.os.trans h.only.os, hb.tape.trans h.only.tape, hb.output.trans h.only.output, Nat.le_trans h.only.size hb.size, fun k hk hne => (hb.block k hk).trans (h.only.block k hk hne)⟩⟩
theorem OInv.set_ (h : OInv T gp wc w cs) (i : Nat) (u : Value) : OInv T gp wc (w.setCell ⟨gp, i, none⟩ u) (cs.setIfInBounds i u) :=
  ⟨blk_set h.p i u, h.lt, ⟨h.only.os, h.only.tape, h.only.output, by have := h.only.size; simpa [World.setCell] using this, fun k hk hne => (heap_setCell_other _ _ _ _ (by intro e'; exact hne (congrArg some e'))).trans (h.only.block k hk hne)⟩⟩
theorem OInv.set3 (h : OInv T gp wc w #[x0, x1, x2, x3, x4]) (u : Value) : OInv T gp wc (w.setCell ⟨gp, 3, none⟩ u) #[x0, x1, x2, u, x4] := h.set_ 3 u
theorem OInv.set4 (h : OInv T gp wc w #[x0, x1, x2, x3, x4]) (u : Value) : OInv T gp wc (w.setCell ⟨gp, 4, none⟩ u) #[x0, x1, x2, x3, u] := h.set_ 4 u
theorem OInv.low (h : OInv T gp wc w cs) {B : Nat} (hB : B ≤ gp) : Below B wc w := ⟨h.only.os, h.only.tape, h.only.output, h.only.size, fun k hk => h.only.block k (by have := h.lt; omega) (by intro e; injection e; omega)⟩
theorem OInv.far (h : OInv T gp wc w cs) {k : Nat} (hk : k < wc.heap.size) (hne : k ≠ gp) : w.heap[k]? = wc.heap[k]? := h.only.block k hk (by intro e; injection e with e; exact hne e)
end
section
variable {w : World} {R : Nat} {T : TypeId} {x0 x1 x2 x3 x4 a0 a1 a2 a3 a4 : Value}
theorem five_free (h : Box w R #[x0, x1, x2, x3, x4] T) : w.frozen? ⟨R, 0, none⟩ = false ∧ w.frozen? ⟨R, 1, none⟩ = false ∧ w.frozen? ⟨R, 2, none⟩ = false ∧ w.frozen? ⟨R, 3, none⟩ = false ∧ w.frozen? ⟨R, 4, none⟩ = false := by
  have k : ∀ i, w.frozen? ⟨R, i, none⟩ = false := fun i => by simp [World.frozen?, show w.heap[R]? = _ from h]
  exact ⟨k 0, k 1, k 2, k 3, k 4⟩
/-- A world in which five cells of block b were written. -/
def wfive (w : World) (b : Nat) (a0 a1 a2 a3 a4 : Value) : World := ((((w.setCell ⟨b, 0, none⟩ a0).setCell ⟨b, 1, none⟩ a1).setCell ⟨b, 2, none⟩ a2).setCell ⟨b, 3, none⟩ a3).setCell ⟨b, 4, none⟩ a4
theorem five_box (h : Box w R #[x0, x1, x2, x3, x4] T) : Box (wfive w R a0 a1 a2 a3 a4) R #[a0, a1, a2, a3, a4] T := by
  have h0 : Box (w.setCell ⟨R, 0, none⟩ a0) R #[a0, x1, x2, x3, x4] T := blk_set h 0 a0
  have h1 : Box ((w.setCell ⟨R, 0, none⟩ a0).setCell ⟨R, 1, none⟩ a1) R #[a0, a1, x2, x3, x4] T := blk_set h0 1 a1
  have h2 : Box (((w.setCell ⟨R, 0, none⟩ a0).setCell ⟨R, 1, none⟩ a1).setCell ⟨R, 2, none⟩ a2) R #[a0, a1, a2, x3, x4] T := blk_set h1 2 a2
  have h3 : Box ((((w.setCell ⟨R, 0, none⟩ a0).setCell ⟨R, 1, none⟩ a1).setCell ⟨R, 2, none⟩ a2).setCell ⟨R, 3, none⟩ a3) R #[a0, a1, a2, a3, x4] T := blk_set h2 3 a3
  exact blk_set h3 4 a4
theorem five_far {k : Nat} (hk : k ≠ R) : (wfive w R a0 a1 a2 a3 a4).heap[k]? = w.heap[k]? := by
  have o : ∀ (w0 : World) (i : Nat) (u : Value), (w0.setCell ⟨R, i, none⟩ u).heap[k]? = w0.heap[k]? := fun w0 i u => heap_setCell_other _ _ _ _ hk
  unfold wfive; rw [o, o, o, o, o]
theorem five_size : (wfive w R a0 a1 a2 a3 a4).heap.size = w.heap.size := by simp [wfive, World.setCell]
theorem five_below {B : Nat} {w0 : World} (h : Below B w0 w) (hB : B ≤ R) : Below B w0 (wfive w R a0 a1 a2 a3 a4) := ((((h.setCell hB _).setCell hB _).setCell hB _).setCell hB _).setCell hB _
end

set_option maxRecDepth 100000 in
set_option maxHeartbeats 8000000 in
theorem rown_any (n s t : Int) (A1 A2 : Option Addr) (c1 c2 : Nat) (ms : List (List (Int × Int))) (os : List (List Int)) (w : World) (h1 : SliceAt Rep.msg.slice false w 0 w.heap.size A1 ms) (h2 : SliceAt Rep.int.slice false w 0 w.heap.size A2 os) (l1 : ms.length ≤ c1) (m1 : c1 ≤ maxLen) (l2 : os.length ≤ c2) (m2 : c2 ≤ maxLen)
    (hms : ms.length ≤ 1000000) (hos : os.length ≤ 1000000) (h1s : ∀ x ∈ ms, x.length ≤ 1000000) (h2s : ∀ x ∈ os, x.length ≤ 1000000) :
    Calls Try.prog 36 #[.agg #[.int .i64 n, .int .i64 s, .int .i64 t, .slice A1 ms.length c1, .slice A2 os.length c2]] w
      fun y w' => (∃ A B k l, y = .returned (.agg #[.int .i64 n, .int .i64 s, .int .i64 t, .slice A ms.length k, .slice B os.length l]) ∧ SliceIs Rep.msg.slice true w' w.heap.size w'.heap.size (.slice A ms.length k) ms ∧ SliceIs Rep.int.slice true w' w.heap.size w'.heap.size (.slice B os.length l) os) ∧ Below w.heap.size w w' := by
  unfold maxLen at m1 m2
  go_enter Try.func36, Try.ntmps36
  go_wp2_with fail
  refine name_wp fun W hW => ?_
  have HBX : Box W w.heap.size #[.int .i64 n, .int .i64 s, .int .i64 t, .slice A1 ms.length c1, .slice A2 os.length c2] 41 := hW ▸ ((Box.new' _ _ (by simp)).alloc _).alloc _
  have hr : Box W (w.heap.size + 1) #[.int .i64 0, .int .i64 0, .int .i64 0, .slice none 0 0, .slice none 0 0] 41 := hW ▸ ((Box.new' _ _ (by simp)).alloc _)
  have hk : Box W (w.heap.size + 1 + 1) #[.int .i64 n, .int .i64 s, .int .i64 t, .slice none 0 0, .slice none 0 0] 41 := hW ▸ (Box.new' _ _ (by simp))
  have hB : Below w.heap.size w W := hW ▸ ((below_2 _ _ _)).alloc (by simp; omega) _
  have HSZ := Lib.hid (show w.heap.size + 3 ≤ W.heap.size from hW ▸ (by simp))
  clear hW
  have hk := OInv.refl hk
  have HBX := Lib.hid HBX
  have HB := Lib.hid hB; clear hB
  have HR := Lib.hid hr; clear hr
  go_loopg [4] ms.length (fun q i wr => ∃ (j : Nat) (u : Value), i = .int .i64 (j : Int) ∧ j ≤ ms.length ∧ q = ms.length - j ∧ OInv 41 (w.heap.size + 1 + 1) W wr #[.int .i64 n, .int .i64 s, .int .i64 t, u, .slice none 0 0] ∧ Acc Rep.msg.slice 24 W.heap.size wr u (ms.take j))
  case atStart => exact ⟨0, _, rfl, by omega, by omega, hk, by simpa using Acc.nil _ _ _ _⟩
  case round =>
    clear hk
    obtain ⟨j, u, rfl, hj, hq, hk, ha⟩ := hrel
    have HQ := Lib.hid hq; clear hq
    have hbr := HB.out.trans (hk.low (by omega))
    have hBr : W.heap.size ≤ wr.heap.size := hk.only.size
    have hpl : w.heap.size + 1 + 1 < wr.heap.size := hk.p.lt
    obtain ⟨k0, k1, k2, k3, k4⟩ := five_cells (HBX.out.below (hk.low (B := w.heap.size + 1 + 1) (Nat.le_refl _)) (by omega))
    clear k0 k1 k2 k4
    by_cases hlt : j < ms.length
    · obtain ⟨x, hx⟩ := Pc.get_at hlt
      have htk := Pc.take_next hx
      have hxs := h1s x (List.mem_of_getElem? hx)
      obtain ⟨g, o, vx, rfl, _, hg, c0, ⟨Ax, cx, rfl, lx, mx, hxa⟩⟩ := ((h1.below hbr (Nat.le_refl _))).row hx
      have hlen : (ms.take j).length = j := by simp; omega
      obtain ⟨Au, cu, rfl, _, mu, _⟩ := ha.slice
      rw [hlen] at ha hk
      obtain ⟨xj, hxj⟩ : ∃ xj, xj = ms.take j := ⟨_, rfl⟩
      rw [← hxj] at ha htk hlen
      have hxjl : xj.length ≤ 1000000 := by omega
      have kp := blk_cell hk.p 3
      simp only [List.getElem?_toArray, List.getElem?_cons_zero, List.getElem?_cons_succ] at kp
      have hb1 : Below wr.heap.size wr ((wr.alloc (.cells #[] 54)).drew) := ((Below.refl _ _).alloc (Nat.le_refl _) _).drew
      have o1 : ((wr.alloc (.cells #[] 54)).drew).ownsRow wr.heap.size 54 Rep.msg.size (.slice (some ⟨wr.heap.size, 0, none⟩) 0 0) 0 [] := own_lit (w := wr) (size := Rep.msg.size) wr.heap.size 54 0 [] (by simp) (Nat.le_refl _) (by unfold maxLen; omega)
      have a1 := hxa.below hb1 (by omega)
      have hws : w.heap.size < wr.heap.size := by omega
      have hgw : g < wr.heap.size := by omega
      have B1 := Lib.hid hb1; have O1 := Lib.hid o1; have AA1 := Lib.hid a1; have HK := Lib.hid hk; have HA := Lib.hid ha; have HTK := Lib.hid htk; have HLEN := Lib.hid hlen
      clear hb1 o1 a1 hk ha htk hlen hxa hx hxj hbr lx
      unfold maxLen at mx mu
      go_wp2_with fail
      refine region_go 256 (by kernel_rfl) ?_
      refine wpAny_go 256 0 [3, 4, 5, 6, 7] 248 8 (by kernel_rfl) (by kernel_rfl) (fun _ _ _ _ _ h => h) (by kernel_rfl) (by rfl) (by rfl) (by kernel_rfl) ?_
      simp only [List.map_cons, List.map_nil, List.getD_cons_succ, List.getD_cons_zero]
      go_wp2_with fail
      change wpAnyM _ _ _ _ _ _ _ _ _ _
      refine wpAny_reads 256 248 [0, 1] 251 6 (by kernel_rfl) (by kernel_rfl) (fun _ _ _ _ _ h => h) (by kernel_rfl) (by rfl) (by rfl) (by kernel_rfl) ?_
      simp only [List.map_cons, List.map_nil, List.getD_cons_succ, List.getD_cons_zero]
      go_wp2_with fail
      change _ → wpAnyM _ _ _ _ _ _ _ _ _ _; intro _
      refine wpAny_go 256 251 [2] 255 5 (by kernel_rfl) (by kernel_rfl) (fun _ _ _ _ _ h => h) (by kernel_rfl) (by rfl) (by rfl) (by kernel_rfl) ?_
      simp only [List.map_cons, List.map_nil, List.getD_cons_succ, List.getD_cons_zero]
      go_wp2_with fail
      change wpAnyM _ _ _ _ _ _ _ _ _ _
      refine wpAny_oneM 8 511 (by kernel_rfl) (by kernel_rfl) (of_decide_eq_true (by kernel_rfl)) (by rfl) ?_
      simp only [List.getD_cons_succ, List.getD_cons_zero]
      go_wp2_with (at_builtin; refine wpList_appendS (r := Rep.msg) (ys := x) rfl (.tmp 22) (.tmp 27) 24 rfl wr.heap.size 54 Try.infoMsg Try.underlying24 rfl _ 0 [] rfl O1.out _ _ rfl AA1.out (by unfold maxLen; omega) (by omega) (by simp) ?_; intro v2 wv news hn hown2 hg2 hb2 ha2; have hbv : Below wr.heap.size wr wv := B1.out.trans hb2; have hv2 : SliceIs Rep.msg true wv wr.heap.size wv.heap.size v2 x := SliceIs.of_own (r := Rep.msg) (base := wr.heap.size) (e := 54) (cells := news) (by simpa using hown2) (Rep.all_flat flat_msg hn) (Nat.le_refl _) (Nat.le_refl _); clear hown2 hn ha2; obtain ⟨Av, cv, rfl, hv3⟩ := hv2; have hvs := hbv.size)
      refine ⟨fun _ => Ext.below (below_drewL hbv) (Nat.le_refl _), ?_⟩
      refine wpAny_go 256 511 [9, 10, 11, 12] 8191 0 (by kernel_rfl) (by kernel_rfl) (fun _ _ _ _ _ h => h) (by kernel_rfl) (by rfl) (by rfl) (by kernel_rfl) ?_
      simp only [List.map_cons, List.map_nil, List.getD_cons_succ, List.getD_cons_zero]
      go_wp2_with (at_builtin; refine wpList_accB (r := Rep.msg.slice) (w0 := wr) (xs := xj) (y := x) rfl (.tmp 21) (.tmp 29) 25 rfl W.heap.size 24 Try.infoMsgs Try.underlying25 rfl (by omega) (.slice Au j cu) (by rfl) HA.out (fun b _ hb => hbv.block b hb) hvs hBr 1 wv.heap.size [.slice Av x.length cv] (by rfl) rfl ⟨_, rfl, Av, cv, rfl, hv3⟩ hxjl ?_; intro v6 w6 hacc6 hg6 hb6; have hk6 := HK.out.step ((hbv.mono hBr).trans hb6); have f6 : w6.frozen? ⟨w.heap.size + 1 + 1, 3, none⟩ = false := (by simp [World.frozen?, show w6.heap[w.heap.size + 1 + 1]? = _ from hk6.p]); have kp := blk_cell hk6.p 3; simp only [List.getElem?_toArray, List.getElem?_cons_zero, List.getElem?_cons_succ] at kp; obtain ⟨A6, c6, hve6, _⟩ := id hacc6.slice; subst hve6; have hl6 : (xj ++ [x]).length = j + 1 := (by rw [List.length_append, HLEN.out]; rfl); rw [hl6] at hacc6 ⊢; have HK6 := Lib.hid hk6; clear hk6; have HAC6 := Lib.hid hacc6; clear hacc6)
      change wpAnyM _ _ _ _ _ _ _ _ _ _
      refine wpAny_endM (by kernel_rfl) (by kernel_rfl) ?_
      go_wp2_with fail
      go_roundg (ms.length - (j + 1))
      case rel => exact ⟨j + 1, _, by simp, by omega, rfl, HK6.out.set3 _, by rw [HTK.out]; exact HAC6.out.move (fun b hb _ => heap_setCell_other w6 ⟨w.heap.size + 1 + 1, 3, none⟩ b _ (by show b ≠ w.heap.size + 1 + 1; have := HSZ.out; omega)) (by simp [World.setCell])⟩
      case measure => have := HQ.out; omega
    · have hu := ha.slice
      rw [List.take_of_length_le (by omega)] at hu
      clear ha
      obtain ⟨A3, c3, rfl, _⟩ := id hu
      have HU := Lib.hid hu; clear hu
      obtain ⟨W2, rfl⟩ : ∃ x : World, x = wr := ⟨_, rfl⟩
      replace HBX := Lib.hid (HBX.out.below (hk.low (B := w.heap.size + 1 + 1) (Nat.le_refl _)) (by omega))
      replace HR := Lib.hid (HR.out.below (hk.low (B := w.heap.size + 1 + 1) (Nat.le_refl _)) (by omega))
      replace HB := Lib.hid hbr
      have HLOW := Lib.hid (show W.heap.size ≤ W2.heap.size from hBr)
      have HSZ0 := HSZ
      replace HSZ := Lib.hid (show w.heap.size + 3 ≤ W2.heap.size by have := HSZ.out; omega)
      replace hk := OInv.refl hk.p
      go_wp2_with fail
      clear hbr hBr hpl hlt hj k3 HQ
      go_loopg [5] os.length (fun q i wr => ∃ (j : Nat) (u : Value), i = .int .i64 (j : Int) ∧ j ≤ os.length ∧ q = os.length - j ∧ OInv 41 (w.heap.size + 1 + 1) W2 wr #[.int .i64 n, .int .i64 s, .int .i64 t, .slice A3 ms.length c3, u] ∧ Acc Rep.int.slice 23 W2.heap.size wr u (os.take j))
      case atStart => exact ⟨0, _, rfl, by omega, by omega, hk, by simpa using Acc.nil _ _ _ _⟩
      case round =>
        clear hk
        obtain ⟨j, u, rfl, hj, hq, hk, ha⟩ := hrel
        have HQ := Lib.hid hq; clear hq
        have hbr := HB.out.trans (hk.low (by omega))
        have hBr : W2.heap.size ≤ wr.heap.size := hk.only.size
        have hpl : w.heap.size + 1 + 1 < wr.heap.size := hk.p.lt
        obtain ⟨k0, k1, k2, k3, k4⟩ := five_cells (HBX.out.below (hk.low (B := w.heap.size + 1 + 1) (Nat.le_refl _)) (by omega))
        clear k0 k1 k2 k3
        by_cases hlt : j < os.length
        · obtain ⟨x, hx⟩ := Pc.get_at hlt
          have htk := Pc.take_next hx
          have hxs := h2s x (List.mem_of_getElem? hx)
          obtain ⟨g, o, vx, rfl, _, hg, c0, ⟨Ax, cx, rfl, lx, mx, hxa⟩⟩ := ((h2.below hbr (Nat.le_refl _))).row hx
          have hlen : (os.take j).length = j := by simp; omega
          obtain ⟨Au, cu, rfl, _, mu, _⟩ := ha.slice
          rw [hlen] at ha hk
          obtain ⟨xj, hxj⟩ : ∃ xj, xj = os.take j := ⟨_, rfl⟩
          rw [← hxj] at ha htk hlen
          have hxjl : xj.length ≤ 1000000 := by omega
          have kp := blk_cell hk.p 4
          simp only [List.getElem?_toArray, List.getElem?_cons_zero, List.getElem?_cons_succ] at kp
          have hb1 : Below wr.heap.size wr ((wr.alloc (.cells #[] 3)).drew) := ((Below.refl _ _).alloc (Nat.le_refl _) _).drew
          have o1 : ((wr.alloc (.cells #[] 3)).drew).ownsRow wr.heap.size 3 Rep.int.size (.slice (some ⟨wr.heap.size, 0, none⟩) 0 0) 0 [] := own_lit (w := wr) (size := Rep.int.size) wr.heap.size 3 0 [] (by simp) (Nat.le_refl _) (by unfold maxLen; omega)
          have a1 := hxa.below hb1 (by omega)
          have hws : w.heap.size < wr.heap.size := by omega
          have hgw : g < wr.heap.size := by omega
          have B1 := Lib.hid hb1; have O1 := Lib.hid o1; have AA1 := Lib.hid a1; have HK := Lib.hid hk; have HA := Lib.hid ha; have HTK := Lib.hid htk; have HLEN := Lib.hid hlen
          clear hb1 o1 a1 hk ha htk hlen hxa hx hxj hbr lx
          unfold maxLen at mx mu
          go_wp2_with fail
          refine region_go 256 (by kernel_rfl) ?_
          refine wpAny_go 256 0 [3, 4, 5, 6, 7] 248 8 (by kernel_rfl) (by kernel_rfl) (fun _ _ _ _ _ h => h) (by kernel_rfl) (by rfl) (by rfl) (by kernel_rfl) ?_
          simp only [List.map_cons, List.map_nil, List.getD_cons_succ, List.getD_cons_zero]
          go_wp2_with fail
          change wpAnyM _ _ _ _ _ _ _ _ _ _
          refine wpAny_reads 256 248 [0, 1] 251 6 (by kernel_rfl) (by kernel_rfl) (fun _ _ _ _ _ h => h) (by kernel_rfl) (by rfl) (by rfl) (by kernel_rfl) ?_
          simp only [List.map_cons, List.map_nil, List.getD_cons_succ, List.getD_cons_zero]
          go_wp2_with fail
          change _ → wpAnyM _ _ _ _ _ _ _ _ _ _; intro _
          refine wpAny_go 256 251 [2] 255 5 (by kernel_rfl) (by kernel_rfl) (fun _ _ _ _ _ h => h) (by kernel_rfl) (by rfl) (by rfl) (by kernel_rfl) ?_
          simp only [List.map_cons, List.map_nil, List.getD_cons_succ, List.getD_cons_zero]
          go_wp2_with fail
          change wpAnyM _ _ _ _ _ _ _ _ _ _
          refine wpAny_oneM 8 511 (by kernel_rfl) (by kernel_rfl) (of_decide_eq_true (by kernel_rfl)) (by rfl) ?_
          simp only [List.getD_cons_succ, List.getD_cons_zero]
          go_wp2_with (at_builtin; refine wpList_appendS (r := Rep.int) (ys := x) rfl (.tmp 41) (.tmp 46) 23 rfl wr.heap.size 3 Try.infoInt Try.underlying23 rfl _ 0 [] rfl O1.out _ _ rfl AA1.out (by unfold maxLen; omega) (by omega) (by simp) ?_; intro v2 wv news hn hown2 hg2 hb2 ha2; have hbv : Below wr.heap.size wr wv := B1.out.trans hb2; have hv2 : SliceIs Rep.int true wv wr.heap.size wv.heap.size v2 x := SliceIs.of_own (r := Rep.int) (base := wr.heap.size) (e := 3) (cells := news) (by simpa using hown2) (Rep.all_flat flat_int hn) (Nat.le_refl _) (Nat.le_refl _); clear hown2 hn ha2; obtain ⟨Av, cv, rfl, hv3⟩ := hv2; have hvs := hbv.size)
          refine ⟨fun _ => Ext.below (below_drewL hbv) (Nat.le_refl _), ?_⟩
          refine wpAny_go 256 511 [9, 10, 11, 12] 8191 0 (by kernel_rfl) (by kernel_rfl) (fun _ _ _ _ _ h => h) (by kernel_rfl) (by rfl) (by rfl) (by kernel_rfl) ?_
          simp only [List.map_cons, List.map_nil, List.getD_cons_succ, List.getD_cons_zero]
          go_wp2_with (at_builtin; refine wpList_accB (r := Rep.int.slice) (w0 := wr) (xs := xj) (y := x) rfl (.tmp 40) (.tmp 48) 26 rfl W2.heap.size 23 Try.infoInts Try.underlying26 rfl (by omega) (.slice Au j cu) (by rfl) HA.out (fun b _ hb => hbv.block b hb) hvs hBr 1 wv.heap.size [.slice Av x.length cv] (by rfl) rfl ⟨_, rfl, Av, cv, rfl, hv3⟩ hxjl ?_; intro v6 w6 hacc6 hg6 hb6; have hk6 := HK.out.step ((hbv.mono hBr).trans hb6); have f6 : w6.frozen? ⟨w.heap.size + 1 + 1, 4, none⟩ = false := (by simp [World.frozen?, show w6.heap[w.heap.size + 1 + 1]? = _ from hk6.p]); have kp := blk_cell hk6.p 4; simp only [List.getElem?_toArray, List.getElem?_cons_zero, List.getElem?_cons_succ] at kp; obtain ⟨A6, c6, hve6, _⟩ := id hacc6.slice; subst hve6; have hl6 : (xj ++ [x]).length = j + 1 := (by rw [List.length_append, HLEN.out]; rfl); rw [hl6] at hacc6 ⊢; have HK6 := Lib.hid hk6; clear hk6; have HAC6 := Lib.hid hacc6; clear hacc6)
          change wpAnyM _ _ _ _ _ _ _ _ _ _
          refine wpAny_endM (by kernel_rfl) (by kernel_rfl) ?_
          go_wp2_with fail
          go_roundg (os.length - (j + 1))
          case rel => exact ⟨j + 1, _, by simp, by omega, rfl, HK6.out.set4 _, by rw [HTK.out]; exact HAC6.out.move (fun b hb _ => heap_setCell_other w6 ⟨w.heap.size + 1 + 1, 4, none⟩ b _ (by show b ≠ w.heap.size + 1 + 1; have := HSZ.out; omega)) (by simp [World.setCell])⟩
          case measure => have := HQ.out; omega
        · have hu := ha.slice
          rw [List.take_of_length_le (by omega)] at hu
          clear ha
          obtain ⟨A4, c4, rfl, _⟩ := id hu
          have hz0 := HSZ.out
          have hz00 := HSZ0.out
          have hu3 := HU.out.keep (w' := wr) fun q h3 h4 => hk.far h4 (by omega)
          have HU3 := Lib.hid hu3; have HU4 := Lib.hid hu; clear hu3 hu
          have hr := HR.out.below (hk.low (B := w.heap.size + 1 + 1) (Nat.le_refl _)) (by omega)
          obtain ⟨f0, f1, f2, f3, f4⟩ := five_free hr
          obtain ⟨d0, d1, d2, d3, d4⟩ := five_cells hr
          obtain ⟨p0, p1, p2, p3, p4⟩ := five_cells hk.p
          have HRR := Lib.hid hr; clear hr
          have HBR := Lib.hid hbr; clear hbr hk
          go_wp2_with fail
          have r := five_box (a0 := .int .i64 n) (a1 := .int .i64 s) (a2 := .int .i64 t) (a3 := .slice A3 ms.length c3) (a4 := .slice A4 os.length c4) HRR.out
          have hz := five_size (w := wr) (R := w.heap.size + 1) (a0 := .int .i64 n) (a1 := .int .i64 s) (a2 := .int .i64 t) (a3 := .slice A3 ms.length c3) (a4 := .slice A4 os.length c4)
          have hbl := five_below (R := w.heap.size + 1) (a0 := .int .i64 n) (a1 := .int .i64 s) (a2 := .int .i64 t) (a3 := .slice A3 ms.length c3) (a4 := .slice A4 os.length c4) HBR.out (by omega)
          have hfar := fun (q : Nat) (hq : q ≠ w.heap.size + 1) => five_far (w := wr) (R := w.heap.size + 1) (a0 := .int .i64 n) (a1 := .int .i64 s) (a2 := .int .i64 t) (a3 := .slice A3 ms.length c3) (a4 := .slice A4 os.length c4) hq
          unfold wfive at r
          obtain ⟨g0, g1, g2, g3, g4⟩ := five_cells r
          refine bodyPost_ret (v := .agg #[.int .i64 n, .int .i64 s, .int .i64 t, .slice A3 ms.length c3, .slice A4 os.length c4]) (by simp [results, Try.results36, go_sem, g0, g1, g2, g3, g4]) rfl ⟨⟨_, _, _, _, rfl, ?_, ?_⟩, hbl⟩
          · exact (HU3.out.keep fun q h3 h4 => hfar q (by omega)).widen (by omega) (Nat.le_trans hBr (Nat.le_of_eq hz.symm))
          · exact (HU4.out.keep fun q h3 h4 => hfar q (by omega)).widen (by omega) (Nat.le_of_eq hz.symm)

set_option maxRecDepth 100000 in
set_option maxHeartbeats 8000000 in
theorem rpiece_any (v : Value) (h : Hu.Host) (w : World) (hh : HostIs false w 0 w.heap.size v h) (hs : h.sized) : Calls Try.prog 24 #[v, .bool true] w
    fun y w' => (∃ v', y = .returned v' ∧ PieceIs true w' w.heap.size w'.heap.size v' h.told) ∧ Below w.heap.size w w' := by
  obtain ⟨n, s, t, inn, out⟩ := h
  obtain ⟨hs1, hs2, hs3, hs4⟩ := hs
  obtain ⟨a, b, rfl, ⟨A1, c1, rfl, l1, m1, ha⟩, ⟨A2, c2, rfl, l2, m2, hb⟩⟩ := hh
  dsimp only at *
  go_enter Try.func24, Try.ntmps24
  go_wp2_with fail
  refine name_call fun W0 hW => ?_
  have hx : Box W0 w.heap.size #[.int .i64 n, .int .i64 s, .int .i64 t, .slice A1 inn.length c1, .slice A2 out.length c2] 41 := hW ▸ ((Box.new' _ _ (by simp)).alloc _)
  have hr : Box W0 (w.heap.size + 1) #[.int .i64 0, .int .i64 0, .int .i64 0, .slice none 0 0, .slice none 0 0, .slice none 0 0] 35 := hW ▸ (Box.new' _ _ (by simp))
  have hB : Below w.heap.size w W0 := hW ▸ (below_2 _ _ _)
  have hsz : W0.heap.size = w.heap.size + 2 := hW ▸ (by simp)
  clear hW
  have hOW := (hb.below hB (Nat.le_refl _)).widen (Nat.le_refl _) hB.size
  refine (rown_any n s t A1 A2 c1 c2 inn out W0 ((ha.below hB (Nat.le_refl _)).widen (Nat.le_refl _) hB.size) hOW l1 m1 l2 m2 hs1 hs2 hs3 hs4).mono ?_
  rintro e w1 ⟨⟨A3, A4, c3, c4, rfl, hI, hO⟩, hb1⟩
  replace hx := hx.next hb1
  replace hr := hr.next hb1
  have hz1 := hb1.size
  obtain ⟨k0, k1, k2, k3, k4⟩ := five_cells (hx.alloc (.cells #[.int .i64 n, .int .i64 s, .int .i64 t, .slice A3 inn.length c3, .slice A4 out.length c4] 41))
  go_wp2_with fail
  clear k0 k1 k2 k3 k4
  refine name_wp fun W hW => ?_
  have hk : Box W (w1.heap.size + 1) #[.int .i64 n, .int .i64 s, .int .i64 t, .slice none 0 0, .slice A3 inn.length c3, .slice A4 out.length c4] 35 := hW ▸ (Box.new' _ _ (by simp))
  have hbW : Below w1.heap.size w1 W := hW ▸ (below_2 _ _ _)
  have hszW : W.heap.size = w1.heap.size + 2 := hW ▸ (by simp)
  clear hW
  replace hx := hx.next hbW
  replace hr := hr.next hbW
  have hk := OInv.refl hk
  have hO2 := (hOW.below hb1 (Nat.le_refl _)).below hbW hz1
  have HX := Lib.hid hx; have HR := Lib.hid hr; have HI := Lib.hid (hI.below hbW (Nat.le_refl _)); have HO := Lib.hid (hO.below hbW (Nat.le_refl _)); have HO2 := Lib.hid hO2
  have HBB := Lib.hid ((hB.trans (hb1.mono hB.size)).trans (hbW.mono (by omega)))
  clear hx hr hI hO hO2 hb1 hbW hB hOW ha hb
  unfold maxLen at m2
  go_loopg [7] out.length (fun q i wr => ∃ (j : Nat) (u : Value), i = .int .i64 (j : Int) ∧ j ≤ out.length ∧ q = out.length - j ∧ OInv 35 (w1.heap.size + 1) W wr #[.int .i64 n, .int .i64 s, .int .i64 t, u, .slice A3 inn.length c3, .slice A4 out.length c4] ∧ Acc Rep.int 3 W.heap.size wr u ((out.take j).map fun l => (l.length : Int)))
  case atStart => exact ⟨0, _, rfl, by omega, by omega, hk, by simpa using Acc.nil _ _ _ _⟩
  case round =>
    clear hk
    obtain ⟨j, u, rfl, hj, hq, hk, ha⟩ := hrel
    have HQ := Lib.hid hq; clear hq
    have hlow := hk.low (B := w1.heap.size + 1) (Nat.le_refl _)
    have hBr : W.heap.size ≤ wr.heap.size := hk.only.size
    obtain ⟨k0, k1, k2, k3, k4⟩ := five_cells (HX.out.below hlow (by omega))
    clear k0 k1 k2 k3
    by_cases hlt : j < out.length
    · obtain ⟨x, hx⟩ := Pc.get_at hlt
      obtain ⟨g, o, vx, rfl, _, hg, c0, ⟨Ax, cx, rfl, _, mx, _⟩⟩ := (HO2.out.below hlow (by omega)).row hx
      have htk := Pc.take_next hx
      have hmap : (out.take (j + 1)).map (fun l => (l.length : Int)) = (out.take j).map (fun l => (l.length : Int)) ++ [(x.length : Int)] := by rw [htk]; simp
      have hlen : ((out.take j).map fun l => (l.length : Int)).length = j := by simp; omega
      obtain ⟨Au, cu, rfl, _, mu, _⟩ := id ha.slice
      rw [hlen] at hk ha
      obtain ⟨xj, hxj⟩ : ∃ xj, xj = (out.take j).map fun l => (l.length : Int) := ⟨_, rfl⟩
      rw [← hxj] at ha hmap hlen
      have hl6 : (xj ++ [(x.length : Int)]).length = j + 1 := by rw [List.length_append, hlen]; rfl
      have hml : xj.length ≤ 1000000 := by omega
      have kp := blk_cell hk.p 3
      simp only [List.getElem?_toArray, List.getElem?_cons_zero, List.getElem?_cons_succ] at kp
      have HM := Lib.hid hmap; have HK := Lib.hid hk; have HA := Lib.hid ha
      clear hmap htk hx hxj hk ha hlow hlen
      unfold maxLen at mx mu
      go_wp2_with fail
      refine region_go 0 (by kernel_rfl) ?_
      obtain ⟨wd, hwd⟩ : ∃ x : World, x = wr.drew := ⟨_, rfl⟩
      rw [← hwd]
      have k4 : wd.cell? ⟨w.heap.size, 4, none⟩ = some (.slice (some ⟨g, o, none⟩) out.length c2) := by rw [hwd]; exact k4
      have c0 : wd.cell? ⟨g, o + j, none⟩ = some (.slice Ax x.length cx) := by rw [hwd]; exact c0
      have kp : wd.cell? ⟨w1.heap.size + 1, 3, none⟩ = some (.slice Au j cu) := by rw [hwd]; exact kp
      have hdk : ∀ b : Nat, wd.heap[b]? = wr.heap[b]? := fun b => by rw [hwd]; rfl
      have hds : wr.heap.size ≤ wd.heap.size := by rw [hwd]; exact Nat.le_refl _
      have hwb : Below W.heap.size wr wd := hwd ▸ (Below.refl _ _).drew
      clear hwd
      refine wpAny_go 0 0 [0, 1, 2, 3, 4, 5, 6, 7, 8, 9, 10, 11] 4095 0 (by kernel_rfl) (by kernel_rfl) (fun _ _ _ _ _ h => h) (by kernel_rfl) (by rfl) (by rfl) (by kernel_rfl) ?_
      simp only [List.map_cons, List.map_nil, List.getD_cons_succ, List.getD_cons_zero]
      go_wp2_with (at_builtin; refine wpList_accB (r := Rep.int) (w0 := wr) (xs := xj) (y := (x.length : Int)) rfl (.tmp 30) (.tmp 37) 23 rfl W.heap.size 3 Try.infoInt Try.underlying23 rfl (by omega) (.slice Au j cu) (by rfl) HA.out (fun b h1 h2 => hdk b) hds hBr 1 _ [.int .i64 (x.length : Int)] rfl rfl rfl hml ?_; intro v6 w6 hacc6 hg6 hb6; have hk6 := HK.out.step (hwb.trans hb6); have f6 : w6.frozen? ⟨w1.heap.size + 1, 3, none⟩ = false := (by simp [World.frozen?, show w6.heap[w1.heap.size + 1]? = _ from hk6.p]); have kp := blk_cell hk6.p 3; simp only [List.getElem?_toArray, List.getElem?_cons_zero, List.getElem?_cons_succ] at kp; obtain ⟨A6, c6, hve6, _⟩ := id hacc6.slice; subst hve6; rw [hl6] at hacc6 ⊢; have HK6 := Lib.hid hk6; clear hk6; have HAC6 := Lib.hid hacc6; clear hacc6)
      change wpAnyM _ _ _ _ _ _ _ _ _ _
      refine wpAny_endM (by kernel_rfl) (by kernel_rfl) ?_
      go_wp2_with fail
      go_roundg (out.length - (j + 1))
      case rel => exact ⟨j + 1, _, by simp, by omega, rfl, HK6.out.set_ 3 _, by rw [HM.out]; exact HAC6.out.move (fun b hb _ => heap_setCell_other w6 ⟨w1.heap.size + 1, 3, none⟩ b _ (by show b ≠ w1.heap.size + 1; omega)) (by simp [World.setCell])⟩
      case measure => have := HQ.out; omega
    · rw [List.take_of_length_le (by omega)] at ha
      have hsl := ha.slice
      obtain ⟨Au, cu, rfl, _, mu, _⟩ := id hsl
      rw [List.length_map] at hsl hk
      obtain ⟨p0, p1, p2, p3, p4, p5⟩ := six_cells hk.p
      have hrr := HR.out.below hlow (by omega)
      obtain ⟨f0, f1, f2, f3, f4, f5⟩ := six_free hrr
      obtain ⟨r0, r1, r2, r3, r4, r5⟩ := six_cells hrr
      have HRR := Lib.hid hrr; have HSL := Lib.hid hsl; have HI3 := Lib.hid (HI.out.below hlow (by omega)); have HO3 := Lib.hid (HO.out.below hlow (by omega)); have HBL := Lib.hid (HBB.out.trans (hlow.mono (by omega)))
      clear hrr hsl ha hk hlow
      go_wp2_with fail
      have r := six_set HRR.out (.int .i64 n) (.int .i64 s) (.int .i64 t) (.slice Au out.length cu) (.slice A3 inn.length c3) (.slice A4 out.length c4)
      obtain ⟨g0, g1, g2, g3, g4, g5⟩ := six_cells r
      have hz := six_size (w := wr) (b := w.heap.size + 1) (a0 := .int .i64 n) (a1 := .int .i64 s) (a2 := .int .i64 t) (a3 := .slice Au out.length cu) (a4 := .slice A3 inn.length c3) (a5 := .slice A4 out.length c4)
      have hfar := fun (q : Nat) (hq : q ≠ w.heap.size + 1) => six_far (w := wr) (b := w.heap.size + 1) (a0 := .int .i64 n) (a1 := .int .i64 s) (a2 := .int .i64 t) (a3 := .slice Au out.length cu) (a4 := .slice A3 inn.length c3) (a5 := .slice A4 out.length c4) hq
      refine bodyPost_ret (v := .agg #[.int .i64 n, .int .i64 s, .int .i64 t, .slice Au out.length cu, .slice A3 inn.length c3, .slice A4 out.length c4]) (by simp [results, Try.results24, go_sem, g0, g1, g2, g3, g4, g5]) rfl ⟨⟨_, rfl, _, _, _, rfl, ?_, ?_, ?_⟩, ?_⟩
      · exact (HSL.out.keep fun q h1 h2 => hfar q (by omega)).widen (by omega) (Nat.le_of_eq hz.symm)
      · exact (HI3.out.keep fun q h1 h2 => hfar q (by omega)).widen (by omega) (Nat.le_trans (by omega) (Nat.le_of_eq hz.symm))
      · exact (HO3.out.keep fun q h1 h2 => hfar q (by omega)).widen (by omega) (Nat.le_trans (by omega) (Nat.le_of_eq hz.symm))
      · exact six_below HBL.out (by omega) _ _ _ _ _ _
end Go.Proofs.Ytmbilaepeekglaa
