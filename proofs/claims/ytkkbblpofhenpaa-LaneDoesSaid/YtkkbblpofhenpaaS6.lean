/- Lemmas, walks and contracts that the statements of this seat are proved by. -/
import Derived.Test.YtkkbblpofhenpaaS5
import Derived.Test.YtkkbblpofhenpaaS2
/- The document's All of pieces; nine cells. -/
namespace Go.Proofs.Ytkkbblpofhenpaa
open Go.RowKit

theorem Box.at' {w : World} {n : Nat} (cs : Array Value) (T : TypeId) (h : w.heap.size = n) : Box (w.alloc (.cells cs T)) n cs T := by subst h; exact Box.new _ _ _
section
variable {w : World} {R : Nat} {T : TypeId} {x0 x1 x2 x3 x4 x5 x6 x7 x8 : Value}
theorem nine_cells (h : Box w R #[x0, x1, x2, x3, x4, x5, x6, x7, x8] T) : w.cell? ⟨R, 0, none⟩ = some x0 ∧ w.cell? ⟨R, 1, none⟩ = some x1 ∧ w.cell? ⟨R, 2, none⟩ = some x2 ∧ w.cell? ⟨R, 3, none⟩ = some x3 ∧ w.cell? ⟨R, 4, none⟩ = some x4 ∧ w.cell? ⟨R, 5, none⟩ = some x5 ∧ w.cell? ⟨R, 6, none⟩ = some x6 ∧ w.cell? ⟨R, 7, none⟩ = some x7 ∧ w.cell? ⟨R, 8, none⟩ = some x8 :=
  ⟨blk_cell h 0, blk_cell h 1, blk_cell h 2, blk_cell h 3, blk_cell h 4, blk_cell h 5, blk_cell h 6, blk_cell h 7, blk_cell h 8⟩
theorem nine_free (h : Box w R #[x0, x1, x2, x3, x4, x5, x6, x7, x8] T) : w.frozen? ⟨R, 0, none⟩ = false ∧ w.frozen? ⟨R, 1, none⟩ = false ∧ w.frozen? ⟨R, 2, none⟩ = false ∧ w.frozen? ⟨R, 3, none⟩ = false ∧ w.frozen? ⟨R, 4, none⟩ = false ∧ w.frozen? ⟨R, 5, none⟩ = false ∧ w.frozen? ⟨R, 6, none⟩ = false ∧ w.frozen? ⟨R, 7, none⟩ = false ∧ w.frozen? ⟨R, 8, none⟩ = false := by
  have k : ∀ i, w.frozen? ⟨R, i, none⟩ = false := fun i => by simp [World.frozen?, show w.heap[R]? = _ from h]
  exact ⟨k 0, k 1, k 2, k 3, k 4, k 5, k 6, k 7, k 8⟩
end
/-! ### All -/
theorem rpall_apart (v u : Value) (xs ys : List Pc.Piece) (w : World) (h : SliceIs Rep.piece false w 0 w.heap.size v xs) (h' : SliceIs Rep.piece false w 0 w.heap.size u ys) (hne : xs.length ≠ ys.length) :
    Calls Try.prog 64 #[v, u] w fun x w' => x = .returned (.bool false) ∧ Below w.heap.size w w' := by
  obtain ⟨A, c, rfl, l1, m1, _⟩ := h
  obtain ⟨A', c', rfl, l2, m2, _⟩ := h'
  have e : (((xs.length : Nat) : Int) != ((ys.length : Nat) : Int)) = true := by rw [bne_iff_ne]; omega
  clear hne
  unfold maxLen at m1 m2
  go_enter Try.func64, Try.ntmps64
  go_wp2_with fail
  go_ret
  exact ⟨rfl, Below.refl _ _⟩

set_option maxRecDepth 100000 in
set_option maxHeartbeats 2000000 in
theorem rpall_like (v u : Value) (xs ys : List Pc.Piece) (w : World) (h : SliceIs Rep.piece false w 0 w.heap.size v xs) (h' : SliceIs Rep.piece false w 0 w.heap.size u ys) (hne : xs.length = ys.length) :
    Calls Try.prog 64 #[v, u] w fun x w' => x = .returned (.bool (decide (xs = ys))) ∧ Below w.heap.size w w' := by
  obtain ⟨A, c, rfl, l1, m1, h1⟩ := h
  obtain ⟨A', c', rfl, l2, m2, h2⟩ := h'
  rw [← hne] at l2 ⊢
  have HN := Lib.hid hne; clear hne
  generalize hd : decide (xs = ys) = d
  have HD := Lib.hid hd; clear hd
  unfold maxLen at m1 m2
  go_enter Try.func64, Try.ntmps64
  go_wp2_with fail
  go_loopg [5] xs.length (fun k i wr => ∃ j : Nat, i = .int .i64 (j : Int) ∧ j ≤ xs.length ∧ k = xs.length - j ∧ xs.take j = ys.take j ∧ Below w.heap.size w wr)
  case atStart => exact ⟨0, rfl, by omega, by omega, rfl, Below.refl _ _⟩
  case round =>
    obtain ⟨j, rfl, hj, hk, hl, hB⟩ := hrel
    have HL := Lib.hid hl; clear hl
    have HK := Lib.hid hk; clear hk
    by_cases hlt : j < xs.length
    ·
      obtain ⟨x, hx⟩ := Pc.get_at hlt
      obtain ⟨y, hy⟩ := Pc.get_at (l := ys) (j := j) (by have := HN.out; omega)
      have hd := hB.drew
      have hsz := hd.size
      obtain ⟨g, o, a3, a4, a5, rfl, _, hg, c0, c1, c2, c3, c4, c5, hp⟩ := (h1.below hd (Nat.le_refl _)).piece hx
      obtain ⟨g', o', b3, b4, b5, rfl, _, hg', d0, d1, d2, d3, d4, d5, hq⟩ := (h2.below hd (Nat.le_refl _)).piece hy
      have HX := Lib.hid hx; clear hx
      have HY := Lib.hid hy; clear hy
      clear h1 h2
      replace hp := hp.widen (Nat.le_refl 0) hsz
      replace hq := hq.widen (Nat.le_refl 0) hsz
      clear hd
      obtain ⟨_, _, _, he, q3, q4, q5⟩ := id hp
      cases he
      obtain ⟨A3, ak3, rfl, _⟩ := q3
      obtain ⟨A4, ak4, rfl, _⟩ := q4
      obtain ⟨A5, ak5, rfl, _⟩ := q5
      obtain ⟨_, _, _, he, q3, q4, q5⟩ := id hq
      cases he
      obtain ⟨B3, bk3, rfl, _⟩ := q3
      obtain ⟨B4, bk4, rfl, _⟩ := q4
      obtain ⟨B5, bk5, rfl, _⟩ := q5
      have hEp := hp; have hEq := hq
      go_upto_region 6 with fail
      replace hB := hB.drew
      have hE := Ext.refl (wr.drew)
      refine region_go 256 (by kernel_rfl) ?_
      refine wpAny_go 256 0 [0, 1, 2, 3, 4, 5, 6, 7] 255 2 (by kernel_rfl) (by kernel_rfl) (fun _ _ _ _ _ h => h) (by kernel_rfl) (by rfl) (by rfl) (by kernel_rfl) ?_
      simp only [List.map_cons, List.map_nil, List.getD_cons_succ, List.getD_cons_zero]
      go_wp2_with fail
      change wpAnyM _ _ _ _ _ _ _ _ _ _
      clear c0 c1 c2 c3 c4 c5 d0 d1 d2 d3 d4 d5
      refine wpAny_oneM 8 511 (by kernel_rfl) (by kernel_rfl) (of_decide_eq_true (by kernel_rfl)) (by rfl) ?_
      simp only [List.getD_cons_succ, List.getD_cons_zero]
      go_wp2_with fail
      refine (rsame_any _ _ x y _ hp hq).mono ?_
      rintro e w1 ⟨rfl, hb⟩
      replace hE := hE.trans (Ext.below hb (Nat.le_refl _))
      replace hB := hB.trans (hb.mono hB.size)
      clear hb
      go_wp2_with fail
      refine ⟨fun _ => hE, ?_⟩
      refine wpAny_go 256 511 [9] 1023 0 (by kernel_rfl) (by kernel_rfl) (fun _ _ _ _ _ h => h) (by kernel_rfl) (by rfl) (by rfl) (by kernel_rfl) ?_
      simp only [List.map_cons, List.map_nil, List.getD_cons_succ, List.getD_cons_zero]
      go_wp2_with fail
      change wpAnyM _ _ _ _ _ _ _ _ _ _
      refine wpAny_endM (by kernel_rfl) (by kernel_rfl) ?_
      cases hxy : decide (x = y)
      ·
        have HXY := Lib.hid (of_decide_eq_false hxy); clear hxy
        go_wp2_with fail
        go_ret
        exact ⟨by rw [← HD.out, Pc.like_no HX.out HY.out HXY.out]; rfl, hB⟩
      ·
        have HXY := Lib.hid (of_decide_eq_true hxy); clear hxy
        go_wp2_with fail
        go_roundg (xs.length - (j + 1))
        case rel => exact ⟨j + 1, by simp, by omega, rfl, Pc.like_next HL.out HX.out (by rw [HXY.out]; exact HY.out), hB⟩
        case measure => have := HK.out; omega
    ·
      go_wp2_with fail
      go_ret
      exact ⟨by rw [← HD.out, Pc.like_end HN.out hlt HL.out]; rfl, hB⟩

theorem rpall_any (v u : Value) (xs ys : List Pc.Piece) (w : World) (h : SliceIs Rep.piece false w 0 w.heap.size v xs) (h' : SliceIs Rep.piece false w 0 w.heap.size u ys) :
    Calls Try.prog 64 #[v, u] w fun x w' => x = .returned (.bool (decide (xs = ys))) ∧ Below w.heap.size w w' := by
  by_cases hne : xs.length = ys.length
  · exact rpall_like v u xs ys w h h' hne
  · rw [Pc.like_len hne]
    exact rpall_apart v u xs ys w h h' hne
end Go.Proofs.Ytkkbblpofhenpaa

/- frame.Same; the document's Same of frames. -/
namespace Go.Proofs.Ytkkbblpofhenpaa
open Go.RowKit

set_option maxRecDepth 100000 in
set_option maxHeartbeats 8000000 in
theorem frsame_any (v u : Value) (f g : Fr) (w : World) (h : FrIs false w 0 w.heap.size v f) (h' : FrIs false w 0 w.heap.size u g) : Calls Try.prog 55 #[v, u] w
    fun x w' => x = .returned (.bool (decide (f = g))) ∧ Below w.heap.size w w' := by
  obtain ⟨k, e, s, t, ps, i, n, c, p⟩ := f
  obtain ⟨k', e', s', t', ps', i', n', c', p'⟩ := g
  obtain ⟨A, B, x, y, rfl, h1, h2⟩ := h
  obtain ⟨A', B', x', y', rfl, h1', h2'⟩ := h'
  dsimp only at h1 h2 h1' h2' ⊢
  have hn := @Fr.same_no ⟨k, e, s, t, ps, i, n, c, p⟩ ⟨k', e', s', t', ps', i', n', c', p'⟩
  dsimp only at hn
  have hy : k = k' → e = e' → s = s' → t = t' → ps = ps' → i = i' → n = n' → c = c' → p = p' → decide ((⟨k, e, s, t, ps, i, n, c, p⟩ : Fr) = ⟨k', e', s', t', ps', i', n', c', p'⟩) = true := by rintro rfl rfl rfl rfl rfl rfl rfl rfl rfl; exact decide_eq_true rfl
  generalize decide ((⟨k, e, s, t, ps, i, n, c, p⟩ : Fr) = ⟨k', e', s', t', ps', i', n', c', p'⟩) = d at hn hy ⊢
  have HN := Lib.hid hn; have HY := Lib.hid hy; clear hn hy
  go_enter Try.func55, Try.ntmps55
  go_upto_region 1 with fail
  refine name_wp fun W0 hW0 => ?_
  have bx0 : Box W0 w.heap.size #[.int .i64 k, .int .i64 e, .int .i64 s, .int .i64 t, .slice A ps.length x, .int .i64 i, .int .i64 n, .int .i64 c, .slice B p.length y] 37 := hW0 ▸ (Box.at' _ _ rfl).alloc _
  have bx1 : Box W0 (w.heap.size + 1) #[.int .i64 k', .int .i64 e', .int .i64 s', .int .i64 t', .slice A' ps'.length x', .int .i64 i', .int .i64 n', .int .i64 c', .slice B' p'.length y'] 37 := hW0 ▸ Box.at' _ _ (by simp)
  have hB : Below w.heap.size w W0 := hW0 ▸ ((Below.refl _ _).alloc (Nat.le_refl _) _).alloc (by simp) _
  replace h1 := (h1.below hB (Nat.le_refl _)).widen (Nat.le_refl 0) hB.size
  replace h2 := (h2.below hB (Nat.le_refl _)).widen (Nat.le_refl 0) hB.size
  replace h1' := (h1'.below hB (Nat.le_refl _)).widen (Nat.le_refl 0) hB.size
  replace h2' := (h2'.below hB (Nat.le_refl _)).widen (Nat.le_refl 0) hB.size
  clear hW0
  by_cases z0 : k = k'
  ·
    subst z0
    have b0 : (k == k) = true := by simp
    by_cases z1 : e = e'
    ·
      subst z1
      have b1 : (e == e) = true := by simp
      by_cases z2 : s = s'
      ·
        subst z2
        have b2 : (s == s) = true := by simp
        by_cases z3 : t = t'
        ·
          subst z3
          have b3 : (t == t) = true := by simp
          obtain ⟨d0, d1, d2, d3, d4, d5, d6, d7, d8⟩ := nine_cells bx0
          obtain ⟨g0, g1, g2, g3, g4, g5, g6, g7, g8⟩ := nine_cells bx1
          go_wp2_with fail
          clear d0 d1 d2 d3 d4 d5 d6 d7 d8 g0 g1 g2 g3 g4 g5 g6 g7 g8
          refine (eqfPieces_any _ _ ps ps' _ h1 h1').mono ?_
          rintro e9 w1 ⟨rfl, hb⟩
          replace bx0 := bx0.next hb; replace bx1 := bx1.next hb
          replace h2 := (h2.below hb (Nat.le_refl _)).widen (Nat.le_refl 0) hb.size
          replace h2' := (h2'.below hb (Nat.le_refl _)).widen (Nat.le_refl 0) hb.size
          replace hB := hB.trans (hb.mono hB.size)
          clear hb h1 h1'
          cases zp : decide (ps = ps')
          ·
            have Z := Lib.hid (of_decide_eq_false zp); clear zp
            obtain ⟨d0, d1, d2, d3, d4, d5, d6, d7, d8⟩ := nine_cells bx0
            obtain ⟨g0, g1, g2, g3, g4, g5, g6, g7, g8⟩ := nine_cells bx1
            go_wp2_with fail
            go_ret
            exact ⟨by rw [HN.out (fun h => Z.out h.2.2.2.2.1)]; rfl, hB⟩
          ·
            have Z4 := Lib.hid (of_decide_eq_true zp); clear zp
            by_cases z5 : i = i'
            ·
              subst z5
              have b5 : (i == i) = true := by simp
              by_cases z6 : n = n'
              ·
                subst z6
                have b6 : (n == n) = true := by simp
                by_cases z7 : c = c'
                ·
                  subst z7
                  have b7 : (c == c) = true := by simp
                  obtain ⟨d0, d1, d2, d3, d4, d5, d6, d7, d8⟩ := nine_cells bx0
                  obtain ⟨g0, g1, g2, g3, g4, g5, g6, g7, g8⟩ := nine_cells bx1
                  go_wp2_with fail
                  clear d0 d1 d2 d3 d4 d5 d6 d7 d8 g0 g1 g2 g3 g4 g5 g6 g7 g8
                  refine (eqInts_any _ _ p p' _ h2 h2').mono ?_
                  rintro e9 w2 ⟨rfl, hq⟩
                  replace hB := hB.trans (hq.below (B := w.heap.size))
                  clear hq h2 h2'
                  cases zp : decide (p = p')
                  ·
                    have Z := Lib.hid (of_decide_eq_false zp); clear zp
                    go_wp2_with fail
                    go_ret
                    exact ⟨by rw [HN.out (fun h => Z.out h.2.2.2.2.2.2.2.2)]; rfl, hB⟩
                  ·
                    have Z8 := Lib.hid (of_decide_eq_true zp); clear zp
                    go_wp2_with fail
                    go_ret
                    exact ⟨by rw [HY.out (by trivial) (by trivial) (by trivial) (by trivial) Z4.out (by trivial) (by trivial) (by trivial) Z8.out]; rfl, hB⟩
                ·
                  have b7 : (c == c') = false := by simpa using z7
                  have Z := Lib.hid z7; clear z7
                  obtain ⟨d0, d1, d2, d3, d4, d5, d6, d7, d8⟩ := nine_cells bx0
                  obtain ⟨g0, g1, g2, g3, g4, g5, g6, g7, g8⟩ := nine_cells bx1
                  go_wp2_with fail
                  go_ret
                  exact ⟨by rw [HN.out (fun h => Z.out h.2.2.2.2.2.2.2.1)]; rfl, hB⟩
              ·
                have b6 : (n == n') = false := by simpa using z6
                have Z := Lib.hid z6; clear z6
                obtain ⟨d0, d1, d2, d3, d4, d5, d6, d7, d8⟩ := nine_cells bx0
                obtain ⟨g0, g1, g2, g3, g4, g5, g6, g7, g8⟩ := nine_cells bx1
                go_wp2_with fail
                go_ret
                exact ⟨by rw [HN.out (fun h => Z.out h.2.2.2.2.2.2.1)]; rfl, hB⟩
            ·
              have b5 : (i == i') = false := by simpa using z5
              have Z := Lib.hid z5; clear z5
              obtain ⟨d0, d1, d2, d3, d4, d5, d6, d7, d8⟩ := nine_cells bx0
              obtain ⟨g0, g1, g2, g3, g4, g5, g6, g7, g8⟩ := nine_cells bx1
              go_wp2_with fail
              go_ret
              exact ⟨by rw [HN.out (fun h => Z.out h.2.2.2.2.2.1)]; rfl, hB⟩
        ·
          have b3 : (t == t') = false := by simpa using z3
          have Z := Lib.hid z3; clear z3
          obtain ⟨d0, d1, d2, d3, d4, d5, d6, d7, d8⟩ := nine_cells bx0
          obtain ⟨g0, g1, g2, g3, g4, g5, g6, g7, g8⟩ := nine_cells bx1
          go_wp2_with fail
          go_ret
          exact ⟨by rw [HN.out (fun h => Z.out h.2.2.2.1)]; rfl, hB⟩
      ·
        have b2 : (s == s') = false := by simpa using z2
        have Z := Lib.hid z2; clear z2
        obtain ⟨d0, d1, d2, d3, d4, d5, d6, d7, d8⟩ := nine_cells bx0
        obtain ⟨g0, g1, g2, g3, g4, g5, g6, g7, g8⟩ := nine_cells bx1
        go_wp2_with fail
        go_ret
        exact ⟨by rw [HN.out (fun h => Z.out h.2.2.1)]; rfl, hB⟩
    ·
      have b1 : (e == e') = false := by simpa using z1
      have Z := Lib.hid z1; clear z1
      obtain ⟨d0, d1, d2, d3, d4, d5, d6, d7, d8⟩ := nine_cells bx0
      obtain ⟨g0, g1, g2, g3, g4, g5, g6, g7, g8⟩ := nine_cells bx1
      go_wp2_with fail
      go_ret
      exact ⟨by rw [HN.out (fun h => Z.out h.2.1)]; rfl, hB⟩
  ·
    have b0 : (k == k') = false := by simpa using z0
    have Z := Lib.hid z0; clear z0
    obtain ⟨d0, d1, d2, d3, d4, d5, d6, d7, d8⟩ := nine_cells bx0
    obtain ⟨g0, g1, g2, g3, g4, g5, g6, g7, g8⟩ := nine_cells bx1
    go_wp2_with fail
    go_ret
    exact ⟨by rw [HN.out (fun h => Z.out h.1)]; rfl, hB⟩

set_option maxRecDepth 100000 in
set_option maxHeartbeats 8000000 in
theorem rfrsame_any (v u : Value) (f g : Fr) (w : World) (h : FrIs false w 0 w.heap.size v f) (h' : FrIs false w 0 w.heap.size u g) : Calls Try.prog 24 #[v, u] w
    fun x w' => x = .returned (.bool (decide (f = g))) ∧ Below w.heap.size w w' := by
  obtain ⟨k, e, s, t, ps, i, n, c, p⟩ := f
  obtain ⟨k', e', s', t', ps', i', n', c', p'⟩ := g
  obtain ⟨A, B, x, y, rfl, h1, h2⟩ := h
  obtain ⟨A', B', x', y', rfl, h1', h2'⟩ := h'
  dsimp only at h1 h2 h1' h2' ⊢
  have hn := @Fr.same_no ⟨k, e, s, t, ps, i, n, c, p⟩ ⟨k', e', s', t', ps', i', n', c', p'⟩
  dsimp only at hn
  have hy : k = k' → e = e' → s = s' → t = t' → ps = ps' → i = i' → n = n' → c = c' → p = p' → decide ((⟨k, e, s, t, ps, i, n, c, p⟩ : Fr) = ⟨k', e', s', t', ps', i', n', c', p'⟩) = true := by rintro rfl rfl rfl rfl rfl rfl rfl rfl rfl; exact decide_eq_true rfl
  generalize decide ((⟨k, e, s, t, ps, i, n, c, p⟩ : Fr) = ⟨k', e', s', t', ps', i', n', c', p'⟩) = d at hn hy ⊢
  have HN := Lib.hid hn; have HY := Lib.hid hy; clear hn hy
  go_enter Try.func24, Try.ntmps24
  go_upto_region 1 with fail
  refine name_wp fun W0 hW0 => ?_
  have bx0 : Box W0 w.heap.size #[.int .i64 k, .int .i64 e, .int .i64 s, .int .i64 t, .slice A ps.length x, .int .i64 i, .int .i64 n, .int .i64 c, .slice B p.length y] 48 := hW0 ▸ (Box.at' _ _ rfl).alloc _
  have bx1 : Box W0 (w.heap.size + 1) #[.int .i64 k', .int .i64 e', .int .i64 s', .int .i64 t', .slice A' ps'.length x', .int .i64 i', .int .i64 n', .int .i64 c', .slice B' p'.length y'] 48 := hW0 ▸ Box.at' _ _ (by simp)
  have hB : Below w.heap.size w W0 := hW0 ▸ ((Below.refl _ _).alloc (Nat.le_refl _) _).alloc (by simp) _
  replace h1 := (h1.below hB (Nat.le_refl _)).widen (Nat.le_refl 0) hB.size
  replace h2 := (h2.below hB (Nat.le_refl _)).widen (Nat.le_refl 0) hB.size
  replace h1' := (h1'.below hB (Nat.le_refl _)).widen (Nat.le_refl 0) hB.size
  replace h2' := (h2'.below hB (Nat.le_refl _)).widen (Nat.le_refl 0) hB.size
  clear hW0
  by_cases z0 : k = k'
  ·
    subst z0
    have b0 : (k == k) = true := by simp
    by_cases z1 : e = e'
    ·
      subst z1
      have b1 : (e == e) = true := by simp
      by_cases z2 : s = s'
      ·
        subst z2
        have b2 : (s == s) = true := by simp
        by_cases z3 : t = t'
        ·
          subst z3
          have b3 : (t == t) = true := by simp
          obtain ⟨d0, d1, d2, d3, d4, d5, d6, d7, d8⟩ := nine_cells bx0
          obtain ⟨g0, g1, g2, g3, g4, g5, g6, g7, g8⟩ := nine_cells bx1
          go_wp2_with fail
          clear d0 d1 d2 d3 d4 d5 d6 d7 d8 g0 g1 g2 g3 g4 g5 g6 g7 g8
          refine (rpall_any _ _ ps ps' _ h1 h1').mono ?_
          rintro e9 w1 ⟨rfl, hb⟩
          replace bx0 := bx0.next hb; replace bx1 := bx1.next hb
          replace h2 := (h2.below hb (Nat.le_refl _)).widen (Nat.le_refl 0) hb.size
          replace h2' := (h2'.below hb (Nat.le_refl _)).widen (Nat.le_refl 0) hb.size
          replace hB := hB.trans (hb.mono hB.size)
          clear hb h1 h1'
          cases zp : decide (ps = ps')
          ·
            have Z := Lib.hid (of_decide_eq_false zp); clear zp
            obtain ⟨d0, d1, d2, d3, d4, d5, d6, d7, d8⟩ := nine_cells bx0
            obtain ⟨g0, g1, g2, g3, g4, g5, g6, g7, g8⟩ := nine_cells bx1
            go_wp2_with fail
            go_ret
            exact ⟨by rw [HN.out (fun h => Z.out h.2.2.2.2.1)]; rfl, hB⟩
          ·
            have Z4 := Lib.hid (of_decide_eq_true zp); clear zp
            by_cases z5 : i = i'
            ·
              subst z5
              have b5 : (i == i) = true := by simp
              by_cases z6 : n = n'
              ·
                subst z6
                have b6 : (n == n) = true := by simp
                by_cases z7 : c = c'
                ·
                  subst z7
                  have b7 : (c == c) = true := by simp
                  obtain ⟨d0, d1, d2, d3, d4, d5, d6, d7, d8⟩ := nine_cells bx0
                  obtain ⟨g0, g1, g2, g3, g4, g5, g6, g7, g8⟩ := nine_cells bx1
                  go_wp2_with fail
                  clear d0 d1 d2 d3 d4 d5 d6 d7 d8 g0 g1 g2 g3 g4 g5 g6 g7 g8
                  refine (rints_any _ _ p p' _ h2 h2').mono ?_
                  rintro e9 w2 ⟨rfl, hq⟩
                  replace hB := hB.trans (hq.below (B := w.heap.size))
                  clear hq h2 h2'
                  cases zp : decide (p = p')
                  ·
                    have Z := Lib.hid (of_decide_eq_false zp); clear zp
                    go_wp2_with fail
                    go_ret
                    exact ⟨by rw [HN.out (fun h => Z.out h.2.2.2.2.2.2.2.2)]; rfl, hB⟩
                  ·
                    have Z8 := Lib.hid (of_decide_eq_true zp); clear zp
                    go_wp2_with fail
                    go_ret
                    exact ⟨by rw [HY.out (by trivial) (by trivial) (by trivial) (by trivial) Z4.out (by trivial) (by trivial) (by trivial) Z8.out]; rfl, hB⟩
                ·
                  have b7 : (c == c') = false := by simpa using z7
                  have Z := Lib.hid z7; clear z7
                  obtain ⟨d0, d1, d2, d3, d4, d5, d6, d7, d8⟩ := nine_cells bx0
                  obtain ⟨g0, g1, g2, g3, g4, g5, g6, g7, g8⟩ := nine_cells bx1
                  go_wp2_with fail
                  go_ret
                  exact ⟨by rw [HN.out (fun h => Z.out h.2.2.2.2.2.2.2.1)]; rfl, hB⟩
              ·
                have b6 : (n == n') = false := by simpa using z6
                have Z := Lib.hid z6; clear z6
                obtain ⟨d0, d1, d2, d3, d4, d5, d6, d7, d8⟩ := nine_cells bx0
                obtain ⟨g0, g1, g2, g3, g4, g5, g6, g7, g8⟩ := nine_cells bx1
                go_wp2_with fail
                go_ret
                exact ⟨by rw [HN.out (fun h => Z.out h.2.2.2.2.2.2.1)]; rfl, hB⟩
            ·
              have b5 : (i == i') = false := by simpa using z5
              have Z := Lib.hid z5; clear z5
              obtain ⟨d0, d1, d2, d3, d4, d5, d6, d7, d8⟩ := nine_cells bx0
              obtain ⟨g0, g1, g2, g3, g4, g5, g6, g7, g8⟩ := nine_cells bx1
              go_wp2_with fail
              go_ret
              exact ⟨by rw [HN.out (fun h => Z.out h.2.2.2.2.2.1)]; rfl, hB⟩
        ·
          have b3 : (t == t') = false := by simpa using z3
          have Z := Lib.hid z3; clear z3
          obtain ⟨d0, d1, d2, d3, d4, d5, d6, d7, d8⟩ := nine_cells bx0
          obtain ⟨g0, g1, g2, g3, g4, g5, g6, g7, g8⟩ := nine_cells bx1
          go_wp2_with fail
          go_ret
          exact ⟨by rw [HN.out (fun h => Z.out h.2.2.2.1)]; rfl, hB⟩
      ·
        have b2 : (s == s') = false := by simpa using z2
        have Z := Lib.hid z2; clear z2
        obtain ⟨d0, d1, d2, d3, d4, d5, d6, d7, d8⟩ := nine_cells bx0
        obtain ⟨g0, g1, g2, g3, g4, g5, g6, g7, g8⟩ := nine_cells bx1
        go_wp2_with fail
        go_ret
        exact ⟨by rw [HN.out (fun h => Z.out h.2.2.1)]; rfl, hB⟩
    ·
      have b1 : (e == e') = false := by simpa using z1
      have Z := Lib.hid z1; clear z1
      obtain ⟨d0, d1, d2, d3, d4, d5, d6, d7, d8⟩ := nine_cells bx0
      obtain ⟨g0, g1, g2, g3, g4, g5, g6, g7, g8⟩ := nine_cells bx1
      go_wp2_with fail
      go_ret
      exact ⟨by rw [HN.out (fun h => Z.out h.2.1)]; rfl, hB⟩
  ·
    have b0 : (k == k') = false := by simpa using z0
    have Z := Lib.hid z0; clear z0
    obtain ⟨d0, d1, d2, d3, d4, d5, d6, d7, d8⟩ := nine_cells bx0
    obtain ⟨g0, g1, g2, g3, g4, g5, g6, g7, g8⟩ := nine_cells bx1
    go_wp2_with fail
    go_ret
    exact ⟨by rw [HN.out (fun h => Z.out h.1)]; rfl, hB⟩

end Go.Proofs.Ytkkbblpofhenpaa

/- frame.within, frame.only, frame.probe; the document's bare. -/
namespace Go.Proofs.Ytkkbblpofhenpaa
open Go.RowKit

theorem fwithin_any (n l h : Int) (w : World) : Calls Try.prog 102 #[.int .i64 n, .int .i64 l, .int .i64 h] w fun x w' => x = .returned (.bool (Pc.within n l h)) ∧ w = w' := by
  generalize hb : Pc.within n l h = b
  have HB := Lib.hid hb; clear hb
  by_cases h0 : l ≤ n
  · by_cases h1 : n ≤ h
    · go_enter Try.func102, Try.ntmps102
      go_wp2_with fail
      go_ret
      exact ⟨by rw [← HB.out, Pc.within_yes ⟨h0, h1⟩]; rfl, rfl⟩
    · go_enter Try.func102, Try.ntmps102
      go_wp2_with fail
      go_ret
      exact ⟨by rw [← HB.out, Pc.within_no (by omega)]; rfl, rfl⟩
  · go_enter Try.func102, Try.ntmps102
    go_wp2_with fail
    go_ret
    exact ⟨by rw [← HB.out, Pc.within_no (by omega)]; rfl, rfl⟩
theorem fwithinq {n l h : Int} {b : Bool} {w : World} (hb : Pc.within n l h = b) : Calls Try.prog 102 #[.int .i64 n, .int .i64 l, .int .i64 h] w fun x w' => x = .returned (.bool b) ∧ w = w' := hb ▸ fwithin_any n l h w

theorem probe1_any (n : Int) (w : World) : Calls Try.prog 127 #[.int .i64 n] w fun x w' => x = .returned (.bool (!Fr.node n)) ∧ w = w' := by
  unfold Fr.node
  obtain ⟨b, hb⟩ : ∃ b, Pc.within n 0 5 = b := ⟨_, rfl⟩
  rw [hb]
  have HB := Lib.hid hb; clear hb
  go_enter Try.func127, Try.ntmps127
  go_wp2_with fail
  refine (fwithinq HB.out).mono ?_
  rintro e w1 ⟨rfl, rfl⟩
  go_wp2_with fail
  go_ret
  exact ⟨rfl, rfl⟩

theorem and_of {A C : Prop} (hc : C) (h : C → A) : A ∧ C := ⟨h hc, hc⟩
namespace Fr
theorem only_0 (e s t : Int) (ps : List Pc.Piece) (i n c : Int) (p : List Int) : only ⟨0, e, s, t, ps, i, n, c, p⟩ = ⟨0, e, s, t, [], 0, 0, 0, []⟩ := rfl
theorem only_5 (e s t : Int) (ps : List Pc.Piece) (i n c : Int) (p : List Int) : only ⟨5, e, s, t, ps, i, n, c, p⟩ = ⟨5, e, 0, 0, ps, 0, 0, 0, []⟩ := rfl
theorem only_6 (e s t : Int) (ps : List Pc.Piece) (i n c : Int) (p : List Int) : only ⟨6, e, s, t, ps, i, n, c, p⟩ = ⟨6, 0, 0, 0, [], i, n, c, p⟩ := rfl
theorem only_n {k : Int} (h0 : k ≠ 0) (h5 : k ≠ 5) (h6 : k ≠ 6) (e s t : Int) (ps : List Pc.Piece) (i n c : Int) (p : List Int) : only ⟨k, e, s, t, ps, i, n, c, p⟩ = ⟨k, e, 0, 0, [], 0, 0, 0, []⟩ := by
  unfold only
  rw [if_neg h0, if_neg h5, if_neg h6]
end Fr

set_option maxRecDepth 100000 in
set_option maxHeartbeats 2000000 in
theorem only_any (v : Value) (f : Fr) (w : World) (h : FrIs false w 0 w.heap.size v f) : Calls Try.prog 103 #[v] w
    fun y w' => (∃ u, y = .returned u ∧ FrIs false w' 0 w'.heap.size u (Fr.only f)) ∧ Below w.heap.size w w' := by
  obtain ⟨k, e, s, t, ps, i, n, c, p⟩ := f
  obtain ⟨A, B, x, y, rfl, h1, h2⟩ := h
  dsimp only at h1 h2 ⊢
  by_cases k0 : k = 0
  · subst k0
    go_enter Try.func103, Try.ntmps103
    go_wp2_with fail
    refine bodyPost_ret (v := .agg #[.int .i64 0, .int .i64 e, .int .i64 s, .int .i64 t, .slice none 0 0, .int .i64 0, .int .i64 0, .int .i64 0, .slice none 0 0]) (by simp [results, Try.results103, go_sem]) rfl (and_of (((Below.refl _ _).alloc (Nat.le_refl _) _).alloc (by simp) _) fun hb => ⟨_, rfl, ?_⟩)
    rw [Fr.only_0]
    exact FrIs.of (f := ⟨0, e, s, t, [], 0, 0, 0, []⟩) SliceIs.none_ SliceIs.none_
  by_cases k5 : k = 5
  · subst k5
    go_enter Try.func103, Try.ntmps103
    go_wp2_with fail
    refine bodyPost_ret (v := .agg #[.int .i64 5, .int .i64 e, .int .i64 0, .int .i64 0, .slice A ps.length x, .int .i64 0, .int .i64 0, .int .i64 0, .slice none 0 0]) (by simp [results, Try.results103, go_sem]) rfl (and_of (((Below.refl _ _).alloc (Nat.le_refl _) _).alloc (by simp) _) fun hb => ⟨_, rfl, ?_⟩)
    rw [Fr.only_5]
    exact FrIs.of (f := ⟨5, e, 0, 0, ps, 0, 0, 0, []⟩) ((h1.below hb (Nat.le_refl _)).widen (Nat.le_refl 0) hb.size) SliceIs.none_
  by_cases k6 : k = 6
  · subst k6
    go_enter Try.func103, Try.ntmps103
    go_wp2_with fail
    refine bodyPost_ret (v := .agg #[.int .i64 6, .int .i64 0, .int .i64 0, .int .i64 0, .slice none 0 0, .int .i64 i, .int .i64 n, .int .i64 c, .slice B p.length y]) (by simp [results, Try.results103, go_sem]) rfl (and_of (((Below.refl _ _).alloc (Nat.le_refl _) _).alloc (by simp) _) fun hb => ⟨_, rfl, ?_⟩)
    rw [Fr.only_6]
    exact FrIs.of (f := ⟨6, 0, 0, 0, [], i, n, c, p⟩) SliceIs.none_ ((h2.below hb (Nat.le_refl _)).widen (Nat.le_refl 0) hb.size)
  have b0 : (k == 0) = false := by simpa using k0
  have b5 : (k == 5) = false := by simpa using k5
  have b6 : (k == 6) = false := by simpa using k6
  go_enter Try.func103, Try.ntmps103
  go_wp2_with fail
  refine bodyPost_ret (v := .agg #[.int .i64 k, .int .i64 e, .int .i64 0, .int .i64 0, .slice none 0 0, .int .i64 0, .int .i64 0, .int .i64 0, .slice none 0 0]) (by simp [results, Try.results103, go_sem]) rfl (and_of (((Below.refl _ _).alloc (Nat.le_refl _) _).alloc (by simp) _) fun hb => ⟨_, rfl, ?_⟩)
  rw [Fr.only_n k0 k5 k6]
  exact FrIs.of (f := ⟨k, e, 0, 0, [], 0, 0, 0, []⟩) SliceIs.none_ SliceIs.none_

set_option maxRecDepth 100000 in
set_option maxHeartbeats 4000000 in
theorem fprobe_any (v : Value) (f : Fr) (w : World) (h : FrIs false w 0 w.heap.size v f) : Calls Try.prog 109 #[v] w
    fun y w' => y = .returned (.bool (Fr.probe f)) ∧ Below w.heap.size w w' := by
  obtain ⟨k, e, s, t, ps, i, n, c, p⟩ := f
  obtain ⟨A, B, x, y, rfl, h1, h2⟩ := h
  dsimp only at h1 h2 ⊢
  unfold Fr.probe
  dsimp only
  obtain ⟨_, _, he, hpl, hpm, _⟩ := id h2
  cases he
  unfold maxLen at hpm
  obtain ⟨b1, hb1⟩ : ∃ b, Pc.within i 0 5 = b := ⟨_, rfl⟩
  obtain ⟨b2, hb2⟩ : ∃ b, Pc.within n 1 200 = b := ⟨_, rfl⟩
  obtain ⟨b3, hb3⟩ : ∃ b, Pc.within c 0 500 = b := ⟨_, rfl⟩
  obtain ⟨b4, hb4⟩ : ∃ b, Pc.within (p.length : Int) 1 6 = b := ⟨_, rfl⟩
  obtain ⟨b5, hb5⟩ : ∃ b, p.all Fr.node = b := ⟨_, rfl⟩
  rw [hb1, hb2, hb3, hb4, hb5]
  have ha : p.any (fun n => !Fr.node n) = !b5 := by rw [Pc.all_not, hb5]
  have hn : Fr.node i = b1 := hb1
  have HA := Lib.hid ha; have HN := Lib.hid hn; have HB2 := Lib.hid hb2; have HB3 := Lib.hid hb3; have HB4 := Lib.hid hb4; clear ha hn hb1 hb2 hb3 hb4 hb5
  go_enter Try.func109, Try.ntmps109
  go_upto_region 1 with fail
  refine name_wp fun W0 hW0 => ?_
  have bx : Box W0 w.heap.size #[.int .i64 k, .int .i64 e, .int .i64 s, .int .i64 t, .slice A ps.length x, .int .i64 i, .int .i64 n, .int .i64 c, .slice B p.length y] 37 := hW0 ▸ Box.new _ _ _
  have hB : Below w.heap.size w W0 := hW0 ▸ (Below.refl _ _).alloc (Nat.le_refl _) _
  replace h2 := (h2.below hB (Nat.le_refl _)).widen (Nat.le_refl 0) hB.size
  clear hW0 h1
  obtain ⟨d0, d1, d2, d3, d4, d5, d6, d7, d8⟩ := nine_cells bx
  go_wp2_with fail
  refine (probe1_any i W0).mono ?_
  rintro z w1 ⟨rfl, rfl⟩
  rw [HN.out]
  cases b1
  · go_wp2_with fail
    go_ret
    exact ⟨rfl, hB⟩
  go_wp2_with fail
  refine (fwithinq HB2.out).mono ?_
  rintro z w1 ⟨rfl, rfl⟩
  cases b2
  · go_wp2_with fail
    go_ret
    exact ⟨rfl, hB⟩
  go_wp2_with fail
  refine (fwithinq HB3.out).mono ?_
  rintro z w1 ⟨rfl, rfl⟩
  cases b3
  · go_wp2_with fail
    go_ret
    exact ⟨rfl, hB⟩
  go_wp2_with fail
  refine (fwithinq HB4.out).mono ?_
  rintro z w1 ⟨rfl, rfl⟩
  cases b4
  · go_wp2_with fail
    go_ret
    exact ⟨rfl, hB⟩
  go_wp2_with fail
  clear d0 d1 d2 d3 d4 d5 d6 d7 d8
  refine (containsInts_any 127 (fun _ _ => rfl) (fun n => !Fr.node n) (fun n w => probe1_any n w) _ _ _ h2).mono ?_
  rintro z w1 ⟨rfl, hb⟩
  rw [HA.out]
  cases b5
  · go_wp2_with fail
    go_ret
    exact ⟨rfl, hB.trans (hb.mono hB.size)⟩
  · go_wp2_with fail
    go_ret
    exact ⟨rfl, hB.trans (hb.mono hB.size)⟩
end Go.Proofs.Ytkkbblpofhenpaa

/- The rules of frame.Right. -/
namespace Go.Proofs.Ytkkbblpofhenpaa
open Go.RowKit

theorem badPiece_any (v : Value) (p : Pc.Piece) (w : World) (h : PieceIs false w 0 w.heap.size v p) : Calls Try.prog 107 #[v] w
    fun x w' => x = .returned (.bool (!Pc.right p)) ∧ Below w.heap.size w w' := by
  obtain ⟨b, hb⟩ : ∃ b, Pc.right p = b := ⟨_, rfl⟩
  obtain ⟨_, _, _, he, ⟨A3, k3, rfl, _⟩, ⟨A4, k4, rfl, _⟩, ⟨A5, k5, rfl, _⟩⟩ := id h
  subst he
  have hr := fun W (hw : PieceIs false W 0 W.heap.size (.agg #[.int .i64 p.node, .int .i64 p.state, .int .i64 p.steps, .slice A3 p.sent.length k3, .slice A4 p.inn.length k4, .slice A5 p.out.length k5]) p) => right_any _ p W hw
  rw [hb] at hr ⊢
  have HR := Lib.hid hr; clear hr hb
  have hB : Below w.heap.size w (w.alloc (.cells #[.int .i64 p.node, .int .i64 p.state, .int .i64 p.steps, .slice A3 p.sent.length k3, .slice A4 p.inn.length k4, .slice A5 p.out.length k5] 79)) := (Below.refl _ _).alloc (Nat.le_refl _) _
  have h' := (h.below hB (Nat.le_refl _)).widen (Nat.le_refl 0) hB.size
  clear h
  have H := Lib.hid h'; clear h'
  go_enter Try.func107, Try.ntmps107
  go_wp2_with fail
  refine (HR.out _ H.out).mono ?_
  rintro z w1 ⟨rfl, hb⟩
  go_wp2_with fail
  go_ret
  exact ⟨rfl, hB.trans (hb.mono hB.size)⟩

set_option maxRecDepth 100000 in
set_option maxHeartbeats 1000000 in
theorem indexPieces_any (v : Value) (xs : List Pc.Piece) (w : World) (h : SliceIs Rep.piece false w 0 w.heap.size v xs) :
    Calls Try.prog 126 #[v, .func (.func 107) #[] #[]] w fun x w' => x = .returned (.int .i64 (Pc.idx (fun p => !Pc.right p) xs)) ∧ Below w.heap.size w w' := by
  obtain ⟨A, c, rfl, hl, hm, hA⟩ := h
  unfold maxLen at hm
  go_enter Try.func126, Try.ntmps126
  go_wp2_with fail
  go_loopg [5, 8] xs.length (fun k _ i wr => ∃ j : Nat, i = .int .i64 (j : Int) ∧ j ≤ xs.length ∧ k = xs.length - j ∧ Pc.clear (fun p => !Pc.right p) xs j ∧ Below w.heap.size w wr)
  case atStart => exact ⟨0, rfl, by omega, by omega, Pc.clear_zero _ _, Below.refl _ _⟩
  case round =>
    obtain ⟨j, rfl, hj, hk, hr, hb⟩ := hrel
    have HR := Lib.hid hr; clear hr
    have HK := Lib.hid hk; clear hk
    by_cases hlt : j < xs.length
    · obtain ⟨x, hx⟩ := Pc.get_at hlt
      obtain ⟨g, o, a3, a4, a5, rfl, _, hg, c0, c1, c2, c3, c4, c5, hp⟩ := (hA.below hb (Nat.le_refl _)).piece hx
      have HX := Lib.hid hx; clear hx
      clear hA
      have hsz := hb.size
      obtain ⟨_, _, _, he, ⟨A3, k3, rfl, _⟩, ⟨A4, k4, rfl, _⟩, ⟨A5, k5, rfl, _⟩⟩ := id hp
      cases he
      have hbad := badPiece_any _ x wr (hp.widen (Nat.le_refl 0) hsz)
      obtain ⟨b, hbx⟩ : ∃ b, Pc.right x = b := ⟨_, rfl⟩
      rw [hbx] at hbad
      have HBAD := Lib.hid hbad; clear hbad hp
      go_wp2_with fail
      refine HBAD.out.mono ?_
      rintro e w1 ⟨rfl, hb1⟩
      replace hb := hb.trans (hb1.mono hsz)
      clear hb1 hsz c0 c1 c2 c3 c4 c5
      cases b
      · have HB := Lib.hid hbx; clear hbx
        go_wp2_with fail
        go_ret
        exact ⟨by rw [Pc.clear_at HR.out HX.out (by rw [HB.out]; rfl)]; rfl, hb⟩
      · have HB := Lib.hid hbx; clear hbx
        go_wp2_with fail
        go_roundg (xs.length - (j + 1))
        case rel => exact ⟨j + 1, by simp, by omega, rfl, Pc.clear_next HR.out HX.out (by rw [HB.out]; rfl), hb⟩
        case measure => have := HK.out; omega
    · go_wp2_with fail
      go_ret
      have hj2 : j = xs.length := by omega
      subst hj2
      exact ⟨by rw [Pc.clear_all HR.out]; rfl, hb⟩

set_option maxRecDepth 100000 in
theorem containsPieces_any (v : Value) (xs : List Pc.Piece) (w : World) (h : SliceIs Rep.piece false w 0 w.heap.size v xs) :
    Calls Try.prog 108 #[v, .func (.func 107) #[] #[]] w fun x w' => x = .returned (.bool (xs.any fun p => !Pc.right p)) ∧ Below w.heap.size w w' := by
  have hi := indexPieces_any v xs w h
  have hg := Pc.idx_ge (fun p => !Pc.right p) xs
  generalize Pc.idx (fun p => !Pc.right p) xs = i at hi hg
  have HI := Lib.hid hi; clear hi h
  rw [← hg.2]
  clear hg
  go_enter Try.func108, Try.ntmps108
  go_wp2_with fail
  refine HI.out.mono ?_
  rintro e w1 ⟨rfl, hb⟩
  go_wp2_with fail
  go_ret
  exact ⟨rfl, hb⟩

set_option maxRecDepth 100000 in
set_option maxHeartbeats 1000000 in
theorem control_any (k e s t i n c : Int) (A B : Option Addr) (a b x y : Nat) (w : World) : Calls Try.prog 104 #[.agg #[.int .i64 k, .int .i64 e, .int .i64 s, .int .i64 t, .slice A a x, .int .i64 i, .int .i64 n, .int .i64 c, .slice B b y]] w
    fun z w' => z = .returned (.bool (Pc.within e 1 200)) ∧ Below w.heap.size w w' := by
  go_enter Try.func104, Try.ntmps104
  go_wp2_with fail
  refine (fwithinq rfl).mono ?_
  rintro z w1 ⟨rfl, rfl⟩
  go_wp2_with fail
  go_ret
  exact ⟨rfl, (Below.refl _ _).alloc (Nat.le_refl _) _⟩

set_option maxRecDepth 100000 in
set_option maxHeartbeats 2000000 in
theorem app_any (v : Value) (f : Fr) (w : World) (h : FrIs false w 0 w.heap.size v f) : Calls Try.prog 105 #[v] w
    fun z w' => z = .returned (.bool (Fr.app f)) ∧ Below w.heap.size w w' := by
  obtain ⟨k, e, s, t, ps, i, n, c, p⟩ := f
  obtain ⟨A, B, x, y, rfl, _, _⟩ := h
  dsimp only
  unfold Fr.app
  dsimp only
  obtain ⟨b1, hb1⟩ : ∃ b, Pc.within e 0 200 = b := ⟨_, rfl⟩
  obtain ⟨b2, hb2⟩ : ∃ b, Pc.within s 1 500 = b := ⟨_, rfl⟩
  obtain ⟨b3, hb3⟩ : ∃ b, Pc.within t 0 3 = b := ⟨_, rfl⟩
  rw [hb1, hb2, hb3]
  have HB1 := Lib.hid hb1; have HB2 := Lib.hid hb2; have HB3 := Lib.hid hb3; clear hb1 hb2 hb3
  have hB : Below w.heap.size w (w.alloc (.cells #[.int .i64 k, .int .i64 e, .int .i64 s, .int .i64 t, .slice A ps.length x, .int .i64 i, .int .i64 n, .int .i64 c, .slice B p.length y] 37)) := (Below.refl _ _).alloc (Nat.le_refl _) _
  have HB := Lib.hid hB; clear hB
  go_enter Try.func105, Try.ntmps105
  go_wp2_with fail
  refine (fwithinq HB1.out).mono ?_
  rintro z w1 ⟨rfl, rfl⟩
  cases b1
  · go_wp2_with fail
    go_ret
    exact ⟨rfl, HB.out⟩
  go_wp2_with fail
  refine (fwithinq HB2.out).mono ?_
  rintro z w1 ⟨rfl, rfl⟩
  cases b2
  · go_wp2_with fail
    go_ret
    exact ⟨rfl, HB.out⟩
  go_wp2_with fail
  refine (fwithinq HB3.out).mono ?_
  rintro z w1 ⟨rfl, rfl⟩
  go_wp2_with fail
  go_ret
  exact ⟨rfl, HB.out⟩

set_option maxRecDepth 100000 in
set_option maxHeartbeats 2000000 in
theorem report_rule (v : Value) (f : Fr) (g : Nat) (w : World) (h : FrIs false w 0 w.heap.size v f) (hg : Box w g #[.func (.func 104) #[] #[]] 101) : Calls Try.prog 106 #[v, .pointer (some ⟨g, 0, none⟩)] w
    fun z w' => z = .returned (.bool (Fr.report f)) ∧ Below w.heap.size w w' := by
  obtain ⟨k, e, s, t, ps, i, n, c, p⟩ := f
  obtain ⟨A, B, x, y, rfl, h1, _⟩ := h
  dsimp only at h1 ⊢
  unfold Fr.report Fr.control
  dsimp only
  obtain ⟨_, _, he, hpl, hpm, _⟩ := id h1
  cases he
  unfold maxLen at hpm
  obtain ⟨b1, hb1⟩ : ∃ b, Pc.within e 1 200 = b := ⟨_, rfl⟩
  obtain ⟨b2, hb2⟩ : ∃ b, Pc.within (ps.length : Int) 1 6 = b := ⟨_, rfl⟩
  obtain ⟨b3, hb3⟩ : ∃ b, ps.all Pc.right = b := ⟨_, rfl⟩
  have ha : ps.any (fun p => !Pc.right p) = !b3 := by rw [Pc.all_not, hb3]
  rw [hb1, hb2, hb3]
  have HB1 := Lib.hid hb1; have HB2 := Lib.hid hb2; have HA := Lib.hid ha; clear hb1 hb2 hb3 ha
  go_enter Try.func106, Try.ntmps106
  go_upto_region 1 with fail
  refine name_wp fun W0 hW0 => ?_
  have bx : Box W0 w.heap.size #[.int .i64 k, .int .i64 e, .int .i64 s, .int .i64 t, .slice A ps.length x, .int .i64 i, .int .i64 n, .int .i64 c, .slice B p.length y] 37 := hW0 ▸ Box.new _ _ _
  have hB : Below w.heap.size w W0 := hW0 ▸ (Below.refl _ _).alloc (Nat.le_refl _) _
  have hg' := hg.next hB
  replace h1 := (h1.below hB (Nat.le_refl _)).widen (Nat.le_refl 0) hB.size
  clear hW0 hg
  obtain ⟨d0, d1, d2, d3, d4, d5, d6, d7, d8⟩ := nine_cells bx
  have k0 : W0.cell? ⟨g, 0, none⟩ = _ := blk_cell hg' 0
  simp only [List.getElem?_toArray, List.getElem?_cons_zero] at k0
  go_wp2_with fail
  clear d0 d1 d2 d3 d4 d5 d6 d7 d8 k0
  refine (control_any _ _ _ _ _ _ _ _ _ _ _ _ _ W0).mono ?_
  rintro z w1 ⟨rfl, hb⟩
  rw [HB1.out]
  replace h1 := (h1.below hb (Nat.le_refl _)).widen (Nat.le_refl 0) hb.size
  replace bx := bx.next hb
  replace hB := hB.trans (hb.mono hB.size)
  clear hb
  cases b1
  · go_wp2_with fail
    go_ret
    exact ⟨rfl, hB⟩
  obtain ⟨d0, d1, d2, d3, d4, d5, d6, d7, d8⟩ := nine_cells bx
  go_wp2_with fail
  refine (fwithinq HB2.out).mono ?_
  rintro z w2 ⟨rfl, rfl⟩
  cases b2
  · go_wp2_with fail
    go_ret
    exact ⟨rfl, hB⟩
  go_wp2_with fail
  clear d0 d1 d2 d3 d4 d5 d6 d7 d8
  refine (containsPieces_any _ ps _ h1).mono ?_
  rintro z w2 ⟨rfl, hb⟩
  rw [HA.out]
  go_wp2_with fail
  go_ret
  exact ⟨by simp, hB.trans (hb.mono hB.size)⟩
end Go.Proofs.Ytkkbblpofhenpaa
