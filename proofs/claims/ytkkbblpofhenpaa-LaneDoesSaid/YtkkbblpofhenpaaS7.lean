/- Lemmas, walks and contracts that the statements of this seat are proved by. -/
import Derived.Test.YtkkbblpofhenpaaS6
import Derived.Test.YtkkbblpofhenpaaS1
import Derived.Test.YtkkbblpofhenpaaS3
import Derived.Test.YtkkbblpofhenpaaS2
/- frame.Right. -/
namespace Go.Proofs.Ytkkbblpofhenpaa
open Go.RowKit

theorem arr7_cells {w : World} {R : Nat} {x0 x1 x2 x3 x4 x5 x6 : Value} {T : TypeId} (h : Box w R #[x0, x1, x2, x3, x4, x5, x6] T) : w.cell? ⟨R, 0, none⟩ = some x0 ∧ w.cell? ⟨R, 1, none⟩ = some x1 ∧ w.cell? ⟨R, 2, none⟩ = some x2 ∧ w.cell? ⟨R, 3, none⟩ = some x3 ∧ w.cell? ⟨R, 4, none⟩ = some x4 ∧ w.cell? ⟨R, 5, none⟩ = some x5 ∧ w.cell? ⟨R, 6, none⟩ = some x6 :=
  ⟨blk_cell h 0, blk_cell h 1, blk_cell h 2, blk_cell h 3, blk_cell h 4, blk_cell h 5, blk_cell h 6⟩
theorem fwithinB {n l h : Int} {b : Bool} {w : World} (hb : Pc.within n l h = b) : Calls Try.prog 102 #[.int .i64 n, .int .i64 l, .int .i64 h] w fun x w' => x = .returned (.bool b) ∧ Below w.heap.size w w' :=
  (fwithinq hb).mono fun _ _ h => ⟨h.1, h.2 ▸ Below.refl _ _⟩
theorem onlyq {v : Value} {f : Fr} {w : World} (h : FrIs false w 0 w.heap.size v f) : Calls Try.prog 103 #[v] w
    fun y w' => (∃ u, y = .returned u ∧ FrIs false w' 0 w'.heap.size u (Fr.only f)) ∧ Below w.heap.size w w' := only_any v f w h
theorem frsameq {v u : Value} {f g : Fr} {w : World} {b : Bool} (h : FrIs false w 0 w.heap.size v f) (h' : FrIs false w 0 w.heap.size u g) (hb : decide (f = g) = b) : Calls Try.prog 55 #[v, u] w
    fun x w' => x = .returned (.bool b) ∧ Below w.heap.size w w' := by subst hb; exact frsame_any v u f g w h h'
theorem fprobeq {v : Value} {f : Fr} {w : World} {b : Bool} (h : FrIs false w 0 w.heap.size v f) (hb : Fr.probe f = b) : Calls Try.prog 109 #[v] w fun y w' => y = .returned (.bool b) ∧ Below w.heap.size w w' := by subst hb; exact fprobe_any v f w h
theorem appq {v : Value} {f : Fr} {w : World} {b : Bool} (h : FrIs false w 0 w.heap.size v f) (hb : Fr.app f = b) : Calls Try.prog 105 #[v] w fun y w' => y = .returned (.bool b) ∧ Below w.heap.size w w' := by subst hb; exact app_any v f w h
theorem controlq {v : Value} {f : Fr} {w : World} {b : Bool} (h : FrIs false w 0 w.heap.size v f) (hb : Fr.control f = b) : Calls Try.prog 104 #[v] w fun y w' => y = .returned (.bool b) ∧ Below w.heap.size w w' := by
  subst hb
  obtain ⟨A, B, x, y, rfl, _, _⟩ := h
  exact control_any _ _ _ _ _ _ _ _ _ _ _ _ _ w
theorem reportq {v : Value} {f : Fr} {w : World} {b : Bool} {g : Nat} (h : FrIs false w 0 w.heap.size v f) (hg : Box w g #[.func (.func 104) #[] #[]] 101) (hb : Fr.report f = b) : Calls Try.prog 106 #[v, .pointer (some ⟨g, 0, none⟩)] w
    fun y w' => y = .returned (.bool b) ∧ Below w.heap.size w w' := by subst hb; exact report_rule v f g w h hg

set_option maxRecDepth 100000 in
set_option maxHeartbeats 8000000 in
theorem frright_any (v : Value) (f : Fr) (w : World) (h : FrIs false w 0 w.heap.size v f) : Calls Try.prog 54 #[v] w
    fun y w' => y = .returned (.bool (Fr.right f)) ∧ Below w.heap.size w w' := by
  obtain ⟨k, e, s, t, ps, i, n, c, p⟩ := f
  obtain ⟨A, B, x, y, rfl, h1, h2⟩ := h
  dsimp only at h1 h2 ⊢
  have hr : Fr.right ⟨k, e, s, t, ps, i, n, c, p⟩ = (Pc.within k 0 6 && (decide (((⟨k, e, s, t, ps, i, n, c, p⟩ : Fr)) = Fr.only ⟨k, e, s, t, ps, i, n, c, p⟩) && Fr.rule ⟨k, e, s, t, ps, i, n, c, p⟩)) := rfl
  generalize Fr.right ⟨k, e, s, t, ps, i, n, c, p⟩ = r at hr ⊢
  obtain ⟨b1, hb1⟩ : ∃ b, Pc.within k 0 6 = b := ⟨_, rfl⟩
  obtain ⟨b2, hb2⟩ : ∃ b, decide (((⟨k, e, s, t, ps, i, n, c, p⟩ : Fr)) = Fr.only ⟨k, e, s, t, ps, i, n, c, p⟩) = b := ⟨_, rfl⟩
  rw [hb1, hb2] at hr
  have HR := Lib.hid hr; have HB1 := Lib.hid hb1; have HB2 := Lib.hid hb2; clear hr hb1 hb2
  go_enter Try.func54, Try.ntmps54
  go_upto_region 1 with fail
  refine name_wp fun W0 hW0 => ?_
  have bx : Box W0 w.heap.size #[.int .i64 k, .int .i64 e, .int .i64 s, .int .i64 t, .slice A ps.length x, .int .i64 i, .int .i64 n, .int .i64 c, .slice B p.length y] 37 := hW0 ▸ Box.new _ _ _
  have hB : Below w.heap.size w W0 := hW0 ▸ (Below.refl _ _).alloc (Nat.le_refl _) _
  have hf : FrIs false W0 0 W0.heap.size (.agg #[.int .i64 k, .int .i64 e, .int .i64 s, .int .i64 t, .slice A ps.length x, .int .i64 i, .int .i64 n, .int .i64 c, .slice B p.length y]) ⟨k, e, s, t, ps, i, n, c, p⟩ := FrIs.of (f := ⟨k, e, s, t, ps, i, n, c, p⟩) ((h1.below hB (Nat.le_refl _)).widen (Nat.le_refl 0) hB.size) ((h2.below hB (Nat.le_refl _)).widen (Nat.le_refl 0) hB.size)
  clear hW0 h1 h2
  cases b1
  ·
    replace bx := bx.next ((Below.refl _ _).drew)
    replace hf := hf.next ((Below.refl _ _).drew)
    replace hB := hB.drew
    have hE := Ext.refl (W0.drew)
    refine region_go 388 (by kernel_rfl) ?_
    obtain ⟨d0, d1, d2, d3, d4, d5, d6, d7, d8⟩ := nine_cells bx
    refine wpAny_go 388 0 [0, 1] 3 9 (by kernel_rfl) (by kernel_rfl) (fun _ _ _ _ _ h => h) (by kernel_rfl) (by rfl) (by rfl) (by kernel_rfl) ?_
    simp only [List.map_cons, List.map_nil, List.getD_cons_succ, List.getD_cons_zero]
    go_wp2_with fail
    change wpAnyM _ _ _ _ _ _ _ _ _ _
    clear d0 d1 d2 d3 d4 d5 d6 d7 d8
    refine wpAny_oneM 2 7 (by kernel_rfl) (by kernel_rfl) (of_decide_eq_true (by kernel_rfl)) (by rfl) ?_
    simp only [List.getD_cons_succ, List.getD_cons_zero]
    go_wp2_with fail
    refine (fwithinB HB1.out).mono ?_
    rintro e w1 ⟨rfl, hb⟩
    replace bx := bx.next hb
    replace hf := hf.next hb
    replace hE := hE.trans (Ext.below hb (Nat.le_refl _))
    replace hB := hB.trans (hb.mono hB.size)
    clear hb
    go_wp2_with fail
    refine ⟨fun _ => hE, ?_⟩
    refine wpAny_go 388 7 [3, 4, 6] 95 5 (by kernel_rfl) (by kernel_rfl) (fun _ _ _ _ _ h => h) (by kernel_rfl) (by rfl) (by rfl) (by kernel_rfl) ?_
    simp only [List.map_cons, List.map_nil, List.getD_cons_succ, List.getD_cons_zero]
    go_wp2_with fail
    change wpAnyM _ _ _ _ _ _ _ _ _ _
    refine wpAnyM_rebase hE _ _ _ _ ?_
    clear hE
    have hE := Ext.refl w1
    refine wpAny_reads 388 95 [5] 127 4 (by kernel_rfl) (by kernel_rfl) (fun _ _ _ _ _ h => h) (by kernel_rfl) (by rfl) (by rfl) (by kernel_rfl) ?_
    simp only [List.map_cons, List.map_nil, List.getD_cons_succ, List.getD_cons_zero]
    go_wp2_with fail
    change _ → wpAnyM _ _ _ _ _ _ _ _ _ _; intro _
    refine wpAny_oneM 7 255 (by kernel_rfl) (by kernel_rfl) (of_decide_eq_true (by kernel_rfl)) (by rfl) ?_
    simp only [List.getD_cons_succ, List.getD_cons_zero]
    go_wp2_with fail
    refine ⟨fun _ => hE, ?_⟩
    refine wpAny_oneM 8 511 (by kernel_rfl) (by kernel_rfl) (of_decide_eq_true (by kernel_rfl)) (by rfl) ?_
    simp only [List.getD_cons_succ, List.getD_cons_zero]
    go_wp2_with fail
    refine ⟨fun _ => hE, ?_⟩
    refine wpAny_go 388 511 [9, 10] 2047 0 (by kernel_rfl) (by kernel_rfl) (fun _ _ _ _ _ h => h) (by kernel_rfl) (by rfl) (by rfl) (by kernel_rfl) ?_
    simp only [List.map_cons, List.map_nil, List.getD_cons_succ, List.getD_cons_zero]
    go_wp2_with fail
    change wpAnyM _ _ _ _ _ _ _ _ _ _
    refine wpAny_endM (by kernel_rfl) (by kernel_rfl) ?_
    go_wp2_with fail
    go_ret
    exact ⟨by rw [HR.out]; rfl, hB⟩
  cases b2
  ·
    replace bx := bx.next ((Below.refl _ _).drew)
    replace hf := hf.next ((Below.refl _ _).drew)
    replace hB := hB.drew
    have hE := Ext.refl (W0.drew)
    refine region_go 388 (by kernel_rfl) ?_
    obtain ⟨d0, d1, d2, d3, d4, d5, d6, d7, d8⟩ := nine_cells bx
    refine wpAny_go 388 0 [0, 1] 3 9 (by kernel_rfl) (by kernel_rfl) (fun _ _ _ _ _ h => h) (by kernel_rfl) (by rfl) (by rfl) (by kernel_rfl) ?_
    simp only [List.map_cons, List.map_nil, List.getD_cons_succ, List.getD_cons_zero]
    go_wp2_with fail
    change wpAnyM _ _ _ _ _ _ _ _ _ _
    clear d0 d1 d2 d3 d4 d5 d6 d7 d8
    refine wpAny_oneM 2 7 (by kernel_rfl) (by kernel_rfl) (of_decide_eq_true (by kernel_rfl)) (by rfl) ?_
    simp only [List.getD_cons_succ, List.getD_cons_zero]
    go_wp2_with fail
    refine (fwithinB HB1.out).mono ?_
    rintro e w1 ⟨rfl, hb⟩
    replace bx := bx.next hb
    replace hf := hf.next hb
    replace hE := hE.trans (Ext.below hb (Nat.le_refl _))
    replace hB := hB.trans (hb.mono hB.size)
    clear hb
    go_wp2_with fail
    refine ⟨fun _ => hE, ?_⟩
    obtain ⟨d0, d1, d2, d3, d4, d5, d6, d7, d8⟩ := nine_cells bx
    obtain ⟨d0, d1, d2, d3, d4, d5, d6, d7, d8⟩ := nine_cells bx
    refine wpAny_go 388 7 [3, 4, 6] 95 5 (by kernel_rfl) (by kernel_rfl) (fun _ _ _ _ _ h => h) (by kernel_rfl) (by rfl) (by rfl) (by kernel_rfl) ?_
    simp only [List.map_cons, List.map_nil, List.getD_cons_succ, List.getD_cons_zero]
    go_wp2_with fail
    change wpAnyM _ _ _ _ _ _ _ _ _ _
    clear d0 d1 d2 d3 d4 d5 d6 d7 d8
    clear d0 d1 d2 d3 d4 d5 d6 d7 d8
    obtain ⟨d0, d1, d2, d3, d4, d5, d6, d7, d8⟩ := nine_cells bx
    refine wpAnyM_rebase hE _ _ _ _ ?_
    clear hE
    have hE := Ext.refl w1
    refine wpAny_reads 388 95 [5] 127 4 (by kernel_rfl) (by kernel_rfl) (fun _ _ _ _ _ h => h) (by kernel_rfl) (by rfl) (by rfl) (by kernel_rfl) ?_
    simp only [List.map_cons, List.map_nil, List.getD_cons_succ, List.getD_cons_zero]
    go_wp2_with fail
    change _ → wpAnyM _ _ _ _ _ _ _ _ _ _; intro _
    clear d0 d1 d2 d3 d4 d5 d6 d7 d8
    refine wpAny_oneM 7 255 (by kernel_rfl) (by kernel_rfl) (of_decide_eq_true (by kernel_rfl)) (by rfl) ?_
    simp only [List.getD_cons_succ, List.getD_cons_zero]
    go_wp2_with fail
    refine (onlyq hf).mono ?_
    rintro e w2 ⟨⟨u, rfl, hu⟩, hb⟩
    replace bx := bx.next hb
    replace hf := hf.next hb
    replace hE := hE.trans (Ext.below hb (Nat.le_refl _))
    replace hB := hB.trans (hb.mono hB.size)
    clear hb
    obtain ⟨A2, B2, x2, y2, rfl, _, _⟩ := id hu
    go_wp2_with fail
    refine ⟨fun _ => hE, ?_⟩
    refine wpAny_oneM 8 511 (by kernel_rfl) (by kernel_rfl) (of_decide_eq_true (by kernel_rfl)) (by rfl) ?_
    simp only [List.getD_cons_succ, List.getD_cons_zero]
    go_wp2_with fail
    refine (frsameq hf hu HB2.out).mono ?_
    rintro e w3 ⟨rfl, hb⟩
    replace bx := bx.next hb
    replace hf := hf.next hb
    replace hu := hu.next hb
    replace hE := hE.trans (Ext.below hb (Nat.le_refl _))
    replace hB := hB.trans (hb.mono hB.size)
    clear hb
    go_wp2_with fail
    refine ⟨fun _ => hE, ?_⟩
    refine wpAny_go 388 511 [9, 10] 2047 0 (by kernel_rfl) (by kernel_rfl) (fun _ _ _ _ _ h => h) (by kernel_rfl) (by rfl) (by rfl) (by kernel_rfl) ?_
    simp only [List.map_cons, List.map_nil, List.getD_cons_succ, List.getD_cons_zero]
    go_wp2_with fail
    change wpAnyM _ _ _ _ _ _ _ _ _ _
    refine wpAny_endM (by kernel_rfl) (by kernel_rfl) ?_
    go_wp2_with fail
    go_ret
    exact ⟨by rw [HR.out]; rfl, hB⟩
  replace bx := bx.next ((Below.refl _ _).drew)
  replace hf := hf.next ((Below.refl _ _).drew)
  replace hB := hB.drew
  have hE := Ext.refl (W0.drew)
  refine region_go 388 (by kernel_rfl) ?_
  obtain ⟨d0, d1, d2, d3, d4, d5, d6, d7, d8⟩ := nine_cells bx
  refine wpAny_go 388 0 [0, 1] 3 9 (by kernel_rfl) (by kernel_rfl) (fun _ _ _ _ _ h => h) (by kernel_rfl) (by rfl) (by rfl) (by kernel_rfl) ?_
  simp only [List.map_cons, List.map_nil, List.getD_cons_succ, List.getD_cons_zero]
  go_wp2_with fail
  change wpAnyM _ _ _ _ _ _ _ _ _ _
  clear d0 d1 d2 d3 d4 d5 d6 d7 d8
  refine wpAny_oneM 2 7 (by kernel_rfl) (by kernel_rfl) (of_decide_eq_true (by kernel_rfl)) (by rfl) ?_
  simp only [List.getD_cons_succ, List.getD_cons_zero]
  go_wp2_with fail
  refine (fwithinB HB1.out).mono ?_
  rintro e w1 ⟨rfl, hb⟩
  replace bx := bx.next hb
  replace hf := hf.next hb
  replace hE := hE.trans (Ext.below hb (Nat.le_refl _))
  replace hB := hB.trans (hb.mono hB.size)
  clear hb
  go_wp2_with fail
  refine ⟨fun _ => hE, ?_⟩
  obtain ⟨d0, d1, d2, d3, d4, d5, d6, d7, d8⟩ := nine_cells bx
  obtain ⟨d0, d1, d2, d3, d4, d5, d6, d7, d8⟩ := nine_cells bx
  refine wpAny_go 388 7 [3, 4, 6] 95 5 (by kernel_rfl) (by kernel_rfl) (fun _ _ _ _ _ h => h) (by kernel_rfl) (by rfl) (by rfl) (by kernel_rfl) ?_
  simp only [List.map_cons, List.map_nil, List.getD_cons_succ, List.getD_cons_zero]
  go_wp2_with fail
  change wpAnyM _ _ _ _ _ _ _ _ _ _
  clear d0 d1 d2 d3 d4 d5 d6 d7 d8
  clear d0 d1 d2 d3 d4 d5 d6 d7 d8
  obtain ⟨d0, d1, d2, d3, d4, d5, d6, d7, d8⟩ := nine_cells bx
  refine wpAnyM_rebase hE _ _ _ _ ?_
  clear hE
  have hE := Ext.refl w1
  refine wpAny_reads 388 95 [5] 127 4 (by kernel_rfl) (by kernel_rfl) (fun _ _ _ _ _ h => h) (by kernel_rfl) (by rfl) (by rfl) (by kernel_rfl) ?_
  simp only [List.map_cons, List.map_nil, List.getD_cons_succ, List.getD_cons_zero]
  go_wp2_with fail
  change _ → wpAnyM _ _ _ _ _ _ _ _ _ _; intro _
  clear d0 d1 d2 d3 d4 d5 d6 d7 d8
  refine wpAny_oneM 7 255 (by kernel_rfl) (by kernel_rfl) (of_decide_eq_true (by kernel_rfl)) (by rfl) ?_
  simp only [List.getD_cons_succ, List.getD_cons_zero]
  go_wp2_with fail
  refine (onlyq hf).mono ?_
  rintro e w2 ⟨⟨u, rfl, hu⟩, hb⟩
  replace bx := bx.next hb
  replace hf := hf.next hb
  replace hE := hE.trans (Ext.below hb (Nat.le_refl _))
  replace hB := hB.trans (hb.mono hB.size)
  clear hb
  obtain ⟨A2, B2, x2, y2, rfl, _, _⟩ := id hu
  go_wp2_with fail
  refine ⟨fun _ => hE, ?_⟩
  refine wpAny_oneM 8 511 (by kernel_rfl) (by kernel_rfl) (of_decide_eq_true (by kernel_rfl)) (by rfl) ?_
  simp only [List.getD_cons_succ, List.getD_cons_zero]
  go_wp2_with fail
  refine (frsameq hf hu HB2.out).mono ?_
  rintro e w3 ⟨rfl, hb⟩
  replace bx := bx.next hb
  replace hf := hf.next hb
  replace hu := hu.next hb
  replace hE := hE.trans (Ext.below hb (Nat.le_refl _))
  replace hB := hB.trans (hb.mono hB.size)
  clear hb
  go_wp2_with fail
  refine ⟨fun _ => hE, ?_⟩
  refine wpAny_go 388 511 [9, 10] 2047 0 (by kernel_rfl) (by kernel_rfl) (fun _ _ _ _ _ h => h) (by kernel_rfl) (by rfl) (by rfl) (by kernel_rfl) ?_
  simp only [List.map_cons, List.map_nil, List.getD_cons_succ, List.getD_cons_zero]
  go_wp2_with fail
  change wpAnyM _ _ _ _ _ _ _ _ _ _
  refine wpAny_endM (by kernel_rfl) (by kernel_rfl) ?_
  clear hu
  go_upto_region 5 with fail
  refine name_wp fun W2 hW2 => ?_
  have bg : Box W2 w3.heap.size #[.func (.func 104) #[] #[]] 101 := hW2 ▸ (Box.at' _ _ rfl).alloc _
  have ba : Box W2 (w3.heap.size + 1) #[.func (.func 105) #[] #[], .func (.func 104) #[] #[], .func (.func 104) #[] #[], .func (.func 104) #[] #[], .func (.func 104) #[] #[], .func (.func 106) #[] #[.pointer (some ⟨w3.heap.size, 0, none⟩)], .func (.func 109) #[] #[]] 149 := hW2 ▸ Box.at' _ _ (by simp)
  have hb : Below w3.heap.size w3 W2 := hW2 ▸ ((Below.refl _ _).alloc (Nat.le_refl _) _).alloc (by simp) _
  replace bx := bx.next hb
  replace hf := hf.next hb
  replace hB := hB.trans (hb.mono hB.size)
  clear hb hW2
  have hkk : 0 ≤ k ∧ k ≤ 6 := of_decide_eq_true HB1.out
  have h7 : k = 0 ∨ k = 1 ∨ k = 2 ∨ k = 3 ∨ k = 4 ∨ k = 5 ∨ k = 6 := by omega
  clear hkk
  rw [Bool.true_and, Bool.true_and] at HR
  rcases h7 with rfl | rfl | rfl | rfl | rfl | rfl | rfl
  ·
    obtain ⟨rb, hrb⟩ : ∃ b, Fr.app (⟨0, e, s, t, ps, i, n, c, p⟩ : Fr) = b := ⟨_, rfl⟩
    have hre : r = rb := by rw [HR.out, ← hrb]; rfl
    have HRB := Lib.hid hrb; have HRE := Lib.hid hre; clear hrb hre HR HB1 HB2
    replace bx := bx.next ((Below.refl _ _).drew)
    replace hf := hf.next ((Below.refl _ _).drew)
    replace bg := bg.next ((Below.refl _ _).drew)
    replace ba := ba.next ((Below.refl _ _).drew)
    replace hB := hB.drew
    have hE := Ext.refl (W2.drew)
    refine region_go 32 (by kernel_rfl) ?_
    obtain ⟨d0, d1, d2, d3, d4, d5, d6, d7, d8⟩ := nine_cells bx
    obtain ⟨g0, g1, g2, g3, g4, g5, g6⟩ := arr7_cells ba
    refine wpAny_go 32 0 [0, 1, 2, 3, 4] 31 2 (by kernel_rfl) (by kernel_rfl) (fun _ _ _ _ _ h => h) (by kernel_rfl) (by rfl) (by rfl) (by kernel_rfl) ?_
    simp only [List.map_cons, List.map_nil, List.getD_cons_succ, List.getD_cons_zero]
    go_wp2_with fail
    change wpAnyM _ _ _ _ _ _ _ _ _ _
    clear d0 d1 d2 d3 d4 d5 d6 d7 d8
    clear g0 g1 g2 g3 g4 g5 g6
    refine wpAny_oneM 5 63 (by kernel_rfl) (by kernel_rfl) (of_decide_eq_true (by kernel_rfl)) (by rfl) ?_
    simp only [List.getD_cons_succ, List.getD_cons_zero]
    go_wp2_with fail
    refine (appq hf HRB.out).mono ?_
    rintro e w4 ⟨rfl, hb⟩
    replace bx := bx.next hb
    replace hf := hf.next hb
    replace bg := bg.next hb
    replace ba := ba.next hb
    replace hE := hE.trans (Ext.below hb (Nat.le_refl _))
    replace hB := hB.trans (hb.mono hB.size)
    clear hb
    go_wp2_with fail
    refine ⟨fun _ => hE, ?_⟩
    refine wpAny_go 32 63 [6] 127 0 (by kernel_rfl) (by kernel_rfl) (fun _ _ _ _ _ h => h) (by kernel_rfl) (by rfl) (by rfl) (by kernel_rfl) ?_
    simp only [List.map_cons, List.map_nil, List.getD_cons_succ, List.getD_cons_zero]
    go_wp2_with fail
    change wpAnyM _ _ _ _ _ _ _ _ _ _
    refine wpAny_endM (by kernel_rfl) (by kernel_rfl) ?_
    go_wp2_with fail
    go_ret
    exact ⟨by rw [HRE.out]; rfl, hB⟩
  ·
    obtain ⟨rb, hrb⟩ : ∃ b, Fr.control (⟨1, e, s, t, ps, i, n, c, p⟩ : Fr) = b := ⟨_, rfl⟩
    have hre : r = rb := by rw [HR.out, ← hrb]; rfl
    have HRB := Lib.hid hrb; have HRE := Lib.hid hre; clear hrb hre HR HB1 HB2
    replace bx := bx.next ((Below.refl _ _).drew)
    replace hf := hf.next ((Below.refl _ _).drew)
    replace bg := bg.next ((Below.refl _ _).drew)
    replace ba := ba.next ((Below.refl _ _).drew)
    replace hB := hB.drew
    have hE := Ext.refl (W2.drew)
    refine region_go 32 (by kernel_rfl) ?_
    obtain ⟨d0, d1, d2, d3, d4, d5, d6, d7, d8⟩ := nine_cells bx
    obtain ⟨g0, g1, g2, g3, g4, g5, g6⟩ := arr7_cells ba
    refine wpAny_go 32 0 [0, 1, 2, 3, 4] 31 2 (by kernel_rfl) (by kernel_rfl) (fun _ _ _ _ _ h => h) (by kernel_rfl) (by rfl) (by rfl) (by kernel_rfl) ?_
    simp only [List.map_cons, List.map_nil, List.getD_cons_succ, List.getD_cons_zero]
    go_wp2_with fail
    change wpAnyM _ _ _ _ _ _ _ _ _ _
    clear d0 d1 d2 d3 d4 d5 d6 d7 d8
    clear g0 g1 g2 g3 g4 g5 g6
    refine wpAny_oneM 5 63 (by kernel_rfl) (by kernel_rfl) (of_decide_eq_true (by kernel_rfl)) (by rfl) ?_
    simp only [List.getD_cons_succ, List.getD_cons_zero]
    go_wp2_with fail
    refine (controlq hf HRB.out).mono ?_
    rintro e w4 ⟨rfl, hb⟩
    replace bx := bx.next hb
    replace hf := hf.next hb
    replace bg := bg.next hb
    replace ba := ba.next hb
    replace hE := hE.trans (Ext.below hb (Nat.le_refl _))
    replace hB := hB.trans (hb.mono hB.size)
    clear hb
    go_wp2_with fail
    refine ⟨fun _ => hE, ?_⟩
    refine wpAny_go 32 63 [6] 127 0 (by kernel_rfl) (by kernel_rfl) (fun _ _ _ _ _ h => h) (by kernel_rfl) (by rfl) (by rfl) (by kernel_rfl) ?_
    simp only [List.map_cons, List.map_nil, List.getD_cons_succ, List.getD_cons_zero]
    go_wp2_with fail
    change wpAnyM _ _ _ _ _ _ _ _ _ _
    refine wpAny_endM (by kernel_rfl) (by kernel_rfl) ?_
    go_wp2_with fail
    go_ret
    exact ⟨by rw [HRE.out]; rfl, hB⟩
  ·
    obtain ⟨rb, hrb⟩ : ∃ b, Fr.control (⟨2, e, s, t, ps, i, n, c, p⟩ : Fr) = b := ⟨_, rfl⟩
    have hre : r = rb := by rw [HR.out, ← hrb]; rfl
    have HRB := Lib.hid hrb; have HRE := Lib.hid hre; clear hrb hre HR HB1 HB2
    replace bx := bx.next ((Below.refl _ _).drew)
    replace hf := hf.next ((Below.refl _ _).drew)
    replace bg := bg.next ((Below.refl _ _).drew)
    replace ba := ba.next ((Below.refl _ _).drew)
    replace hB := hB.drew
    have hE := Ext.refl (W2.drew)
    refine region_go 32 (by kernel_rfl) ?_
    obtain ⟨d0, d1, d2, d3, d4, d5, d6, d7, d8⟩ := nine_cells bx
    obtain ⟨g0, g1, g2, g3, g4, g5, g6⟩ := arr7_cells ba
    refine wpAny_go 32 0 [0, 1, 2, 3, 4] 31 2 (by kernel_rfl) (by kernel_rfl) (fun _ _ _ _ _ h => h) (by kernel_rfl) (by rfl) (by rfl) (by kernel_rfl) ?_
    simp only [List.map_cons, List.map_nil, List.getD_cons_succ, List.getD_cons_zero]
    go_wp2_with fail
    change wpAnyM _ _ _ _ _ _ _ _ _ _
    clear d0 d1 d2 d3 d4 d5 d6 d7 d8
    clear g0 g1 g2 g3 g4 g5 g6
    refine wpAny_oneM 5 63 (by kernel_rfl) (by kernel_rfl) (of_decide_eq_true (by kernel_rfl)) (by rfl) ?_
    simp only [List.getD_cons_succ, List.getD_cons_zero]
    go_wp2_with fail
    refine (controlq hf HRB.out).mono ?_
    rintro e w4 ⟨rfl, hb⟩
    replace bx := bx.next hb
    replace hf := hf.next hb
    replace bg := bg.next hb
    replace ba := ba.next hb
    replace hE := hE.trans (Ext.below hb (Nat.le_refl _))
    replace hB := hB.trans (hb.mono hB.size)
    clear hb
    go_wp2_with fail
    refine ⟨fun _ => hE, ?_⟩
    refine wpAny_go 32 63 [6] 127 0 (by kernel_rfl) (by kernel_rfl) (fun _ _ _ _ _ h => h) (by kernel_rfl) (by rfl) (by rfl) (by kernel_rfl) ?_
    simp only [List.map_cons, List.map_nil, List.getD_cons_succ, List.getD_cons_zero]
    go_wp2_with fail
    change wpAnyM _ _ _ _ _ _ _ _ _ _
    refine wpAny_endM (by kernel_rfl) (by kernel_rfl) ?_
    go_wp2_with fail
    go_ret
    exact ⟨by rw [HRE.out]; rfl, hB⟩
  ·
    obtain ⟨rb, hrb⟩ : ∃ b, Fr.control (⟨3, e, s, t, ps, i, n, c, p⟩ : Fr) = b := ⟨_, rfl⟩
    have hre : r = rb := by rw [HR.out, ← hrb]; rfl
    have HRB := Lib.hid hrb; have HRE := Lib.hid hre; clear hrb hre HR HB1 HB2
    replace bx := bx.next ((Below.refl _ _).drew)
    replace hf := hf.next ((Below.refl _ _).drew)
    replace bg := bg.next ((Below.refl _ _).drew)
    replace ba := ba.next ((Below.refl _ _).drew)
    replace hB := hB.drew
    have hE := Ext.refl (W2.drew)
    refine region_go 32 (by kernel_rfl) ?_
    obtain ⟨d0, d1, d2, d3, d4, d5, d6, d7, d8⟩ := nine_cells bx
    obtain ⟨g0, g1, g2, g3, g4, g5, g6⟩ := arr7_cells ba
    refine wpAny_go 32 0 [0, 1, 2, 3, 4] 31 2 (by kernel_rfl) (by kernel_rfl) (fun _ _ _ _ _ h => h) (by kernel_rfl) (by rfl) (by rfl) (by kernel_rfl) ?_
    simp only [List.map_cons, List.map_nil, List.getD_cons_succ, List.getD_cons_zero]
    go_wp2_with fail
    change wpAnyM _ _ _ _ _ _ _ _ _ _
    clear d0 d1 d2 d3 d4 d5 d6 d7 d8
    clear g0 g1 g2 g3 g4 g5 g6
    refine wpAny_oneM 5 63 (by kernel_rfl) (by kernel_rfl) (of_decide_eq_true (by kernel_rfl)) (by rfl) ?_
    simp only [List.getD_cons_succ, List.getD_cons_zero]
    go_wp2_with fail
    refine (controlq hf HRB.out).mono ?_
    rintro e w4 ⟨rfl, hb⟩
    replace bx := bx.next hb
    replace hf := hf.next hb
    replace bg := bg.next hb
    replace ba := ba.next hb
    replace hE := hE.trans (Ext.below hb (Nat.le_refl _))
    replace hB := hB.trans (hb.mono hB.size)
    clear hb
    go_wp2_with fail
    refine ⟨fun _ => hE, ?_⟩
    refine wpAny_go 32 63 [6] 127 0 (by kernel_rfl) (by kernel_rfl) (fun _ _ _ _ _ h => h) (by kernel_rfl) (by rfl) (by rfl) (by kernel_rfl) ?_
    simp only [List.map_cons, List.map_nil, List.getD_cons_succ, List.getD_cons_zero]
    go_wp2_with fail
    change wpAnyM _ _ _ _ _ _ _ _ _ _
    refine wpAny_endM (by kernel_rfl) (by kernel_rfl) ?_
    go_wp2_with fail
    go_ret
    exact ⟨by rw [HRE.out]; rfl, hB⟩
  ·
    obtain ⟨rb, hrb⟩ : ∃ b, Fr.control (⟨4, e, s, t, ps, i, n, c, p⟩ : Fr) = b := ⟨_, rfl⟩
    have hre : r = rb := by rw [HR.out, ← hrb]; rfl
    have HRB := Lib.hid hrb; have HRE := Lib.hid hre; clear hrb hre HR HB1 HB2
    replace bx := bx.next ((Below.refl _ _).drew)
    replace hf := hf.next ((Below.refl _ _).drew)
    replace bg := bg.next ((Below.refl _ _).drew)
    replace ba := ba.next ((Below.refl _ _).drew)
    replace hB := hB.drew
    have hE := Ext.refl (W2.drew)
    refine region_go 32 (by kernel_rfl) ?_
    obtain ⟨d0, d1, d2, d3, d4, d5, d6, d7, d8⟩ := nine_cells bx
    obtain ⟨g0, g1, g2, g3, g4, g5, g6⟩ := arr7_cells ba
    refine wpAny_go 32 0 [0, 1, 2, 3, 4] 31 2 (by kernel_rfl) (by kernel_rfl) (fun _ _ _ _ _ h => h) (by kernel_rfl) (by rfl) (by rfl) (by kernel_rfl) ?_
    simp only [List.map_cons, List.map_nil, List.getD_cons_succ, List.getD_cons_zero]
    go_wp2_with fail
    change wpAnyM _ _ _ _ _ _ _ _ _ _
    clear d0 d1 d2 d3 d4 d5 d6 d7 d8
    clear g0 g1 g2 g3 g4 g5 g6
    refine wpAny_oneM 5 63 (by kernel_rfl) (by kernel_rfl) (of_decide_eq_true (by kernel_rfl)) (by rfl) ?_
    simp only [List.getD_cons_succ, List.getD_cons_zero]
    go_wp2_with fail
    refine (controlq hf HRB.out).mono ?_
    rintro e w4 ⟨rfl, hb⟩
    replace bx := bx.next hb
    replace hf := hf.next hb
    replace bg := bg.next hb
    replace ba := ba.next hb
    replace hE := hE.trans (Ext.below hb (Nat.le_refl _))
    replace hB := hB.trans (hb.mono hB.size)
    clear hb
    go_wp2_with fail
    refine ⟨fun _ => hE, ?_⟩
    refine wpAny_go 32 63 [6] 127 0 (by kernel_rfl) (by kernel_rfl) (fun _ _ _ _ _ h => h) (by kernel_rfl) (by rfl) (by rfl) (by kernel_rfl) ?_
    simp only [List.map_cons, List.map_nil, List.getD_cons_succ, List.getD_cons_zero]
    go_wp2_with fail
    change wpAnyM _ _ _ _ _ _ _ _ _ _
    refine wpAny_endM (by kernel_rfl) (by kernel_rfl) ?_
    go_wp2_with fail
    go_ret
    exact ⟨by rw [HRE.out]; rfl, hB⟩
  ·
    obtain ⟨rb, hrb⟩ : ∃ b, Fr.report (⟨5, e, s, t, ps, i, n, c, p⟩ : Fr) = b := ⟨_, rfl⟩
    have hre : r = rb := by rw [HR.out, ← hrb]; rfl
    have HRB := Lib.hid hrb; have HRE := Lib.hid hre; clear hrb hre HR HB1 HB2
    replace bx := bx.next ((Below.refl _ _).drew)
    replace hf := hf.next ((Below.refl _ _).drew)
    replace bg := bg.next ((Below.refl _ _).drew)
    replace ba := ba.next ((Below.refl _ _).drew)
    replace hB := hB.drew
    have hE := Ext.refl (W2.drew)
    refine region_go 32 (by kernel_rfl) ?_
    obtain ⟨d0, d1, d2, d3, d4, d5, d6, d7, d8⟩ := nine_cells bx
    obtain ⟨g0, g1, g2, g3, g4, g5, g6⟩ := arr7_cells ba
    refine wpAny_go 32 0 [0, 1, 2, 3, 4] 31 2 (by kernel_rfl) (by kernel_rfl) (fun _ _ _ _ _ h => h) (by kernel_rfl) (by rfl) (by rfl) (by kernel_rfl) ?_
    simp only [List.map_cons, List.map_nil, List.getD_cons_succ, List.getD_cons_zero]
    go_wp2_with fail
    change wpAnyM _ _ _ _ _ _ _ _ _ _
    clear d0 d1 d2 d3 d4 d5 d6 d7 d8
    clear g0 g1 g2 g3 g4 g5 g6
    refine wpAny_oneM 5 63 (by kernel_rfl) (by kernel_rfl) (of_decide_eq_true (by kernel_rfl)) (by rfl) ?_
    simp only [List.getD_cons_succ, List.getD_cons_zero]
    go_wp2_with fail
    refine (reportq hf bg HRB.out).mono ?_
    rintro e w4 ⟨rfl, hb⟩
    replace bx := bx.next hb
    replace hf := hf.next hb
    replace bg := bg.next hb
    replace ba := ba.next hb
    replace hE := hE.trans (Ext.below hb (Nat.le_refl _))
    replace hB := hB.trans (hb.mono hB.size)
    clear hb
    go_wp2_with fail
    refine ⟨fun _ => hE, ?_⟩
    refine wpAny_go 32 63 [6] 127 0 (by kernel_rfl) (by kernel_rfl) (fun _ _ _ _ _ h => h) (by kernel_rfl) (by rfl) (by rfl) (by kernel_rfl) ?_
    simp only [List.map_cons, List.map_nil, List.getD_cons_succ, List.getD_cons_zero]
    go_wp2_with fail
    change wpAnyM _ _ _ _ _ _ _ _ _ _
    refine wpAny_endM (by kernel_rfl) (by kernel_rfl) ?_
    go_wp2_with fail
    go_ret
    exact ⟨by rw [HRE.out]; rfl, hB⟩
  ·
    obtain ⟨rb, hrb⟩ : ∃ b, Fr.probe (⟨6, e, s, t, ps, i, n, c, p⟩ : Fr) = b := ⟨_, rfl⟩
    have hre : r = rb := by rw [HR.out, ← hrb]; rfl
    have HRB := Lib.hid hrb; have HRE := Lib.hid hre; clear hrb hre HR HB1 HB2
    replace bx := bx.next ((Below.refl _ _).drew)
    replace hf := hf.next ((Below.refl _ _).drew)
    replace bg := bg.next ((Below.refl _ _).drew)
    replace ba := ba.next ((Below.refl _ _).drew)
    replace hB := hB.drew
    have hE := Ext.refl (W2.drew)
    refine region_go 32 (by kernel_rfl) ?_
    obtain ⟨d0, d1, d2, d3, d4, d5, d6, d7, d8⟩ := nine_cells bx
    obtain ⟨g0, g1, g2, g3, g4, g5, g6⟩ := arr7_cells ba
    refine wpAny_go 32 0 [0, 1, 2, 3, 4] 31 2 (by kernel_rfl) (by kernel_rfl) (fun _ _ _ _ _ h => h) (by kernel_rfl) (by rfl) (by rfl) (by kernel_rfl) ?_
    simp only [List.map_cons, List.map_nil, List.getD_cons_succ, List.getD_cons_zero]
    go_wp2_with fail
    change wpAnyM _ _ _ _ _ _ _ _ _ _
    clear d0 d1 d2 d3 d4 d5 d6 d7 d8
    clear g0 g1 g2 g3 g4 g5 g6
    refine wpAny_oneM 5 63 (by kernel_rfl) (by kernel_rfl) (of_decide_eq_true (by kernel_rfl)) (by rfl) ?_
    simp only [List.getD_cons_succ, List.getD_cons_zero]
    go_wp2_with fail
    refine (fprobeq hf HRB.out).mono ?_
    rintro e w4 ⟨rfl, hb⟩
    replace bx := bx.next hb
    replace hf := hf.next hb
    replace bg := bg.next hb
    replace ba := ba.next hb
    replace hE := hE.trans (Ext.below hb (Nat.le_refl _))
    replace hB := hB.trans (hb.mono hB.size)
    clear hb
    go_wp2_with fail
    refine ⟨fun _ => hE, ?_⟩
    refine wpAny_go 32 63 [6] 127 0 (by kernel_rfl) (by kernel_rfl) (fun _ _ _ _ _ h => h) (by kernel_rfl) (by rfl) (by rfl) (by kernel_rfl) ?_
    simp only [List.map_cons, List.map_nil, List.getD_cons_succ, List.getD_cons_zero]
    go_wp2_with fail
    change wpAnyM _ _ _ _ _ _ _ _ _ _
    refine wpAny_endM (by kernel_rfl) (by kernel_rfl) ?_
    go_wp2_with fail
    go_ret
    exact ⟨by rw [HRE.out]; rfl, hB⟩
end Go.Proofs.Ytkkbblpofhenpaa

/- What the document asks of a frame, in plain Lean. Nothing of the program. -/
namespace Go.Proofs.Ytkkbblpofhenpaa
namespace Fr
/-- A probe's numbers, and nothing else. -/
def rprobe (f : Fr) : Bool := decide (f.epoch = 0 ∧ f.seq = 0 ∧ f.letter = 0 ∧ f.pieces.length = 0) && probe f
def okNums (f : Fr) : Prop := (f.epoch = 0 ∧ f.seq = 0 ∧ f.letter = 0 ∧ f.pieces.length = 0) ∧ (0 ≤ f.init ∧ f.init ≤ 5) ∧ (1 ≤ f.num ∧ f.num ≤ 200) ∧ (0 ≤ f.count ∧ f.count ≤ 500) ∧ (1 ≤ f.path.length ∧ f.path.length ≤ 6)
theorem rprobe_yes {f : Fr} (h : okNums f) : rprobe f = f.path.all node := by
  obtain ⟨h0, h1, h2, h3, h4⟩ := h
  unfold rprobe probe
  rw [decide_eq_true h0, Pc.within_yes h1, Pc.within_yes h2, Pc.within_yes h3, Pc.within_yes (by omega)]
  rfl
theorem rprobe_no {f : Fr} (h : ¬ okNums f) : rprobe f = false := by
  cases hr : rprobe f with
  | false => rfl
  | true =>
    exfalso
    apply h
    unfold rprobe probe Pc.within at hr
    simp only [Bool.and_eq_true, decide_eq_true_eq] at hr
    obtain ⟨h0, h1, h2, h3, h4, _⟩ := hr
    exact ⟨h0, h1, h2, h3, by omega⟩
theorem nil_iff {α : Type} {l : List α} : l = [] ↔ l.length = 0 := by cases l <;> simp
theorem right_6 (e s t : Int) (ps : List Pc.Piece) (i n c : Int) (p : List Int) : right ⟨6, e, s, t, ps, i, n, c, p⟩ = rprobe ⟨6, e, s, t, ps, i, n, c, p⟩ := by
  have h : decide ((⟨6, e, s, t, ps, i, n, c, p⟩ : Fr) = only ⟨6, e, s, t, ps, i, n, c, p⟩) = decide (e = 0 ∧ s = 0 ∧ t = 0 ∧ ps.length = 0) := by
    rw [decide_eq_decide]
    show (⟨6, e, s, t, ps, i, n, c, p⟩ : Fr) = ⟨6, 0, 0, 0, [], i, n, c, p⟩ ↔ _
    simp
  unfold right rprobe
  rw [h]
  rfl
/-- What is asked ahead of the pieces, of each kind but a probe. -/
def okRest (f : Fr) : Prop := (0 ≤ f.kind ∧ f.kind ≤ 5) ∧ (f.init = 0 ∧ f.num = 0 ∧ f.count = 0 ∧ f.path.length = 0) ∧ (0 ≤ f.epoch ∧ f.epoch ≤ 200) ∧ (0 < f.kind → 1 ≤ f.epoch) ∧ (0 < f.kind → f.seq = 0 ∧ f.letter = 0)
theorem right_no {f : Fr} (h6 : f.kind ≠ 6) (h : ¬ okRest f) : right f = false := by
  cases hr : right f with
  | false => rfl
  | true =>
    exfalso
    apply h
    have hk := right_kind hr
    have ho := right_only hr
    have hu := right_rule hr
    obtain ⟨k, e, s, t, ps, i, n, c, p⟩ := f
    dsimp only at h6 hk
    by_cases k0 : k = 0
    · subst k0
      rw [show only ⟨0, e, s, t, ps, i, n, c, p⟩ = ⟨0, e, s, t, [], 0, 0, 0, []⟩ from rfl] at ho
      simp only [Fr.mk.injEq] at ho
      obtain ⟨_, _, _, _, rfl, rfl, rfl, rfl, rfl⟩ := ho
      have hu : app ⟨0, e, s, t, [], 0, 0, 0, []⟩ = true := hu
      simp only [app, Pc.within, Bool.and_eq_true, decide_eq_true_eq] at hu
      exact ⟨⟨by dsimp only; decide, by dsimp only; decide⟩, ⟨rfl, rfl, rfl, rfl⟩, hu.1, fun h => absurd h (by dsimp only; decide), fun h => absurd h (by dsimp only; decide)⟩
    · by_cases k5 : k = 5
      · subst k5
        rw [show only ⟨5, e, s, t, ps, i, n, c, p⟩ = ⟨5, e, 0, 0, ps, 0, 0, 0, []⟩ from rfl] at ho
        simp only [Fr.mk.injEq] at ho
        obtain ⟨_, _, rfl, rfl, _, rfl, rfl, rfl, rfl⟩ := ho
        have hu : report ⟨5, e, 0, 0, ps, 0, 0, 0, []⟩ = true := hu
        simp only [report, control, Pc.within, Bool.and_eq_true, decide_eq_true_eq] at hu
        exact ⟨⟨by dsimp only; decide, by dsimp only; decide⟩, ⟨rfl, rfl, rfl, rfl⟩, ⟨by dsimp only; omega, by dsimp only; omega⟩, fun _ => hu.1.1, fun _ => ⟨rfl, rfl⟩⟩
      · have hon : only ⟨k, e, s, t, ps, i, n, c, p⟩ = ⟨k, e, 0, 0, [], 0, 0, 0, []⟩ := by unfold only; rw [if_neg k0, if_neg k5, if_neg h6]
        rw [hon] at ho
        simp only [Fr.mk.injEq] at ho
        obtain ⟨_, _, rfl, rfl, rfl, rfl, rfl, rfl, rfl⟩ := ho
        unfold rule at hu
        rw [if_neg k0, if_neg k5, if_neg h6] at hu
        simp only [control, Pc.within, decide_eq_true_eq] at hu
        exact ⟨⟨hk.1, by dsimp only; omega⟩, ⟨rfl, rfl, rfl, rfl⟩, ⟨by dsimp only; omega, by dsimp only; omega⟩, fun _ => hu.1, fun _ => ⟨rfl, rfl⟩⟩
theorem right_0 {f : Fr} (h : okRest f) (hk : f.kind = 0) : right f = decide (f.pieces.length = 0 ∧ 1 ≤ f.seq ∧ f.seq ≤ 500 ∧ 0 ≤ f.letter ∧ f.letter ≤ 3) := by
  obtain ⟨k, e, s, t, ps, i, n, c, p⟩ := f
  obtain ⟨_, ⟨h1, h2, h3, h4⟩, h5, _, _⟩ := h
  dsimp only at hk h1 h2 h3 h4 h5 ⊢
  subst hk h1 h2 h3
  obtain rfl := nil_iff.2 h4
  have ho : decide ((⟨0, e, s, t, ps, 0, 0, 0, []⟩ : Fr) = only ⟨0, e, s, t, ps, 0, 0, 0, []⟩) = decide (ps.length = 0) := by
    rw [decide_eq_decide]
    show (⟨0, e, s, t, ps, 0, 0, 0, []⟩ : Fr) = ⟨0, e, s, t, [], 0, 0, 0, []⟩ ↔ _
    simp
  have hr : rule ⟨0, e, s, t, ps, 0, 0, 0, []⟩ = (Pc.within e 0 200 && (Pc.within s 1 500 && Pc.within t 0 3)) := rfl
  unfold right
  rw [ho, hr, Pc.within_yes (n := e) (by omega), show Pc.within (Fr.kind ⟨0, e, s, t, ps, 0, 0, 0, []⟩) 0 6 = true from rfl]
  rw [Bool.eq_iff_iff]
  simp only [Pc.within, Bool.and_eq_true, decide_eq_true_eq, true_and]
  constructor
  · rintro ⟨a, b, c⟩; exact ⟨a, b.1, b.2, c.1, c.2⟩
  · rintro ⟨a, b, c, d, e⟩; exact ⟨a, ⟨b, c⟩, d, e⟩
theorem right_n {f : Fr} (h : okRest f) (hk : f.kind ≠ 0) (hk5 : f.kind ≠ 5) : right f = decide (f.pieces.length = 0) := by
  obtain ⟨k, e, s, t, ps, i, n, c, p⟩ := f
  obtain ⟨h0, ⟨h1, h2, h3, h4⟩, h5, h6, h7⟩ := h
  dsimp only at hk hk5 h0 h1 h2 h3 h4 h5 h6 h7 ⊢
  obtain ⟨h8, h9⟩ := h7 (by omega)
  clear h7
  subst h1 h2 h3 h8 h9
  obtain rfl := nil_iff.2 h4
  have hk6 : k ≠ 6 := by omega
  have hon : only ⟨k, e, 0, 0, ps, 0, 0, 0, []⟩ = ⟨k, e, 0, 0, [], 0, 0, 0, []⟩ := by unfold only; rw [if_neg hk, if_neg hk5, if_neg hk6]
  have ho : decide ((⟨k, e, 0, 0, ps, 0, 0, 0, []⟩ : Fr) = only ⟨k, e, 0, 0, ps, 0, 0, 0, []⟩) = decide (ps.length = 0) := by
    rw [decide_eq_decide, hon]
    simp
  have hr : rule ⟨k, e, 0, 0, ps, 0, 0, 0, []⟩ = Pc.within e 1 200 := by unfold rule; rw [if_neg hk, if_neg hk5, if_neg hk6]; rfl
  unfold right
  rw [ho, hr, Pc.within_yes (n := e) ⟨h6 (by omega), h5.2⟩, Pc.within_yes (by dsimp only; omega)]
  simp
theorem right_5 {f : Fr} (h : okRest f) (hk : f.kind = 5) : right f = (f.pieces.all Pc.right && Pc.within f.pieces.length 1 6) := by
  obtain ⟨k, e, s, t, ps, i, n, c, p⟩ := f
  obtain ⟨h0, ⟨h1, h2, h3, h4⟩, h5, h6, h7⟩ := h
  dsimp only at hk h0 h1 h2 h3 h4 h5 h6 h7 ⊢
  obtain ⟨h8, h9⟩ := h7 (by omega)
  clear h7
  subst hk h1 h2 h3 h8 h9
  obtain rfl := nil_iff.2 h4
  have hr : rule ⟨5, e, 0, 0, ps, 0, 0, 0, []⟩ = (Pc.within e 1 200 && (Pc.within ps.length 1 6 && ps.all Pc.right)) := rfl
  have ho : decide ((⟨5, e, 0, 0, ps, 0, 0, 0, []⟩ : Fr) = only ⟨5, e, 0, 0, ps, 0, 0, 0, []⟩) = true := decide_eq_true rfl
  unfold right
  rw [ho, hr, Pc.within_yes (n := e) ⟨h6 (by omega), h5.2⟩, show Pc.within (Fr.kind ⟨5, e, 0, 0, ps, 0, 0, 0, []⟩) 0 6 = true from rfl, Bool.true_and, Bool.true_and, Bool.true_and, Bool.and_comm]
end Fr
end Go.Proofs.Ytkkbblpofhenpaa

/- The document's bare, probe and Right of frames. -/
namespace Go.Proofs.Ytkkbblpofhenpaa
open Go.RowKit

theorem SliceIs.fwd {α : Type} {r : Rep α} {fr : Bool} {w w' : World} {lo : Nat} {v : Value} {xs : List α} (h : SliceIs r fr w lo w.heap.size v xs) (hb : Below w.heap.size w w') : SliceIs r fr w' lo w'.heap.size v xs := (h.below hb (Nat.le_refl _)).widen (Nat.le_refl _) hb.size
theorem SliceIs.arr {α : Type} {r : Rep α} {fr : Bool} {w : World} {lo hi n c : Nat} {A : Option Addr} {xs : List α} (h : SliceIs r fr w lo hi (.slice A n c) xs) : SliceAt r fr w lo hi A xs := by
  obtain ⟨_, _, he, _, _, h⟩ := h
  cases he
  exact h

set_option maxRecDepth 100000 in
set_option maxHeartbeats 4000000 in
theorem rbare_any (v : Value) (f : Fr) (w : World) (h : FrIs false w 0 w.heap.size v f) : Calls Try.prog 68 #[v] w
    fun y w' => y = .returned (.bool (decide (f.init = 0 ∧ f.num = 0 ∧ f.count = 0 ∧ f.path.length = 0))) ∧ Below w.heap.size w w' := by
  obtain ⟨k, e, s, t, ps, i, n, c, p⟩ := f
  obtain ⟨A, B, x, y, rfl, h1, h2⟩ := h
  dsimp only at h1 h2 ⊢
  obtain ⟨_, _, he, hpl, hpm, _⟩ := id h1
  cases he
  obtain ⟨_, _, he, hql, hqm, _⟩ := id h2
  cases he
  unfold maxLen at hpm hqm
  have hno : ¬ (i = 0 ∧ n = 0 ∧ c = 0 ∧ p.length = 0) → decide (i = 0 ∧ n = 0 ∧ c = 0 ∧ p.length = 0) = false := decide_eq_false
  have hyes : (i = 0 ∧ n = 0 ∧ c = 0 ∧ p.length = 0) → decide (i = 0 ∧ n = 0 ∧ c = 0 ∧ p.length = 0) = true := decide_eq_true
  generalize decide (i = 0 ∧ n = 0 ∧ c = 0 ∧ p.length = 0) = r at hno hyes ⊢
  have HN := Lib.hid hno; have HY := Lib.hid hyes; clear hno hyes
  go_enter Try.func68, Try.ntmps68
  go_upto_region 1 with fail
  refine name_wp fun W0 hW0 => ?_
  have bx : Box W0 w.heap.size #[.int .i64 k, .int .i64 e, .int .i64 s, .int .i64 t, .slice A ps.length x, .int .i64 i, .int .i64 n, .int .i64 c, .slice B p.length y] 48 := hW0 ▸ Box.new _ _ _
  have hB : Below w.heap.size w W0 := hW0 ▸ (Below.refl _ _).alloc (Nat.le_refl _) _
  clear hW0 h1 h2
  obtain ⟨d0, d1, d2, d3, d4, d5, d6, d7, d8⟩ := nine_cells bx
  by_cases z0 : i = 0
  case neg =>
    have b : (i == 0) = false := by simpa using z0
    go_wp2_with fail
    go_ret
    exact ⟨by rw [HN.out (by omega)]; rfl, hB⟩
  subst z0
  by_cases z1 : n = 0
  case neg =>
    have b : (n == 0) = false := by simpa using z1
    go_wp2_with fail
    go_ret
    exact ⟨by rw [HN.out (by omega)]; rfl, hB⟩
  subst z1
  by_cases z2 : c = 0
  case neg =>
    have b : (c == 0) = false := by simpa using z2
    go_wp2_with fail
    go_ret
    exact ⟨by rw [HN.out (by omega)]; rfl, hB⟩
  subst z2
  by_cases z3 : p.length = 0
  ·
    obtain rfl := List.eq_nil_of_length_eq_zero z3
    go_wp2_with fail
    go_ret
    exact ⟨by rw [HY.out (by simp)]; rfl, hB⟩
  ·
    have b : ((p.length : Int) == 0) = false := by simp only [beq_eq_false_iff_ne, ne_eq]; omega
    go_wp2_with fail
    go_ret
    exact ⟨by rw [HN.out (by omega)]; rfl, hB⟩

set_option maxRecDepth 100000 in
set_option maxHeartbeats 8000000 in
theorem rprobe_any (v : Value) (f : Fr) (w : World) (h : FrIs false w 0 w.heap.size v f) : Calls Try.prog 67 #[v] w
    fun y w' => y = .returned (.bool (Fr.rprobe f)) ∧ Below w.heap.size w w' := by
  obtain ⟨k, e, s, t, ps, i, n, c, p⟩ := f
  obtain ⟨A, B, x, y, rfl, h1, h2⟩ := h
  dsimp only at h1 h2 ⊢
  obtain ⟨_, _, he, hpl, hpm, _⟩ := id h1
  cases he
  obtain ⟨_, _, he, hql, hqm, _⟩ := id h2
  cases he
  unfold maxLen at hpm hqm
  have hno := @Fr.rprobe_no ⟨k, e, s, t, ps, i, n, c, p⟩
  have hyes := @Fr.rprobe_yes ⟨k, e, s, t, ps, i, n, c, p⟩
  unfold Fr.okNums at hno hyes
  dsimp only at hno hyes
  generalize Fr.rprobe ⟨k, e, s, t, ps, i, n, c, p⟩ = r at hno hyes ⊢
  have HN := Lib.hid hno; have HY := Lib.hid hyes; clear hno hyes
  go_enter Try.func67, Try.ntmps67
  go_upto_region 1 with fail
  refine name_wp fun W0 hW0 => ?_
  have bx : Box W0 w.heap.size #[.int .i64 k, .int .i64 e, .int .i64 s, .int .i64 t, .slice A ps.length x, .int .i64 i, .int .i64 n, .int .i64 c, .slice B p.length y] 48 := hW0 ▸ Box.new _ _ _
  have hB : Below w.heap.size w W0 := hW0 ▸ (Below.refl _ _).alloc (Nat.le_refl _) _
  replace h2 := (h2.below hB (Nat.le_refl _)).widen (Nat.le_refl 0) hB.size
  clear hW0 h1
  have H2 := Lib.hid h2; clear h2
  obtain ⟨d0, d1, d2, d3, d4, d5, d6, d7, d8⟩ := nine_cells bx
  by_cases z0 : e = 0
  case neg =>
    have b : (e == 0) = false := by simpa using z0
    have b2 : (e != 0) = true := by simpa using z0
    go_wp2_with fail
    go_ret
    exact ⟨by rw [HN.out (by omega)]; rfl, hB⟩
  subst z0
  by_cases z1 : s = 0
  case neg =>
    have b : (s == 0) = false := by simpa using z1
    have b2 : (s != 0) = true := by simpa using z1
    go_wp2_with fail
    go_ret
    exact ⟨by rw [HN.out (by omega)]; rfl, hB⟩
  subst z1
  by_cases z2 : t = 0
  case neg =>
    have b : (t == 0) = false := by simpa using z2
    have b2 : (t != 0) = true := by simpa using z2
    go_wp2_with fail
    go_ret
    exact ⟨by rw [HN.out (by omega)]; rfl, hB⟩
  subst z2
  by_cases z3 : ps.length = 0
  case neg =>
    have b : 0 < ps.length := by omega
    go_wp2_with fail
    go_ret
    exact ⟨by rw [HN.out (by omega)]; rfl, hB⟩
  obtain rfl := List.eq_nil_of_length_eq_zero z3
  clear z3
  by_cases z4 : i < 0
  case pos =>
    go_wp2_with fail
    go_ret
    exact ⟨by rw [HN.out (by omega)]; rfl, hB⟩
  by_cases z5 : 5 < i
  case pos =>
    go_wp2_with fail
    go_ret
    exact ⟨by rw [HN.out (by omega)]; rfl, hB⟩
  by_cases z6 : n < 1
  case pos =>
    go_wp2_with fail
    go_ret
    exact ⟨by rw [HN.out (by omega)]; rfl, hB⟩
  by_cases z7 : 200 < n
  case pos =>
    go_wp2_with fail
    go_ret
    exact ⟨by rw [HN.out (by omega)]; rfl, hB⟩
  by_cases z8 : c < 0
  case pos =>
    go_wp2_with fail
    go_ret
    exact ⟨by rw [HN.out (by omega)]; rfl, hB⟩
  by_cases z9 : 500 < c
  case pos =>
    go_wp2_with fail
    go_ret
    exact ⟨by rw [HN.out (by omega)]; rfl, hB⟩
  by_cases z10 : p.length < 1
  case pos =>
    go_wp2_with fail
    go_ret
    exact ⟨by rw [HN.out (by omega)]; rfl, hB⟩
  by_cases z11 : 6 < p.length
  case pos =>
    go_wp2_with fail
    go_ret
    exact ⟨by rw [HN.out (by omega)]; rfl, hB⟩
  have hall : r = p.all Fr.node := HY.out ⟨⟨rfl, rfl, rfl, rfl⟩, ⟨by omega, by omega⟩, ⟨by omega, by omega⟩, ⟨by omega, by omega⟩, by omega, by omega⟩
  have HL := Lib.hid hall; clear hall HY HN
  go_wp2_with fail
  clear d0 d1 d2 d3 d4 d5 d6 d7 d8 z4 z5 z6 z7 z8 z9
  go_loopg [3] p.length (fun k i wr => ∃ j : Nat, i = .int .i64 (j : Int) ∧ j ≤ p.length ∧ k = p.length - j ∧ Pc.good Fr.node p j ∧ Below W0.heap.size W0 wr)
  case atStart => exact ⟨0, rfl, by omega, by omega, Pc.good_zero _ _, Below.refl _ _⟩
  case round =>
    obtain ⟨j, rfl, hj, hk, hr, hb⟩ := hrel
    have HR := Lib.hid hr; have HK := Lib.hid hk; clear hr hk
    obtain ⟨d0, d1, d2, d3, d4, d5, d6, d7, d8⟩ := nine_cells (bx.next hb)
    by_cases hlt : j < p.length
    ·
      obtain ⟨u, hu⟩ := Pc.get_at hlt
      obtain ⟨g, o, he, _, hg, c0⟩ := (H2.out.fwd hb).arr.int hu
      subst he
      have HU := Lib.hid hu; clear hu
      by_cases qu : u < 0
      case pos =>
        go_wp2_with fail
        go_ret
        exact ⟨by rw [HL.out, Pc.bad_all (b := Fr.node) HU.out (show Fr.node u = false from Pc.within_no (by omega))]; rfl, hB.trans (hb.mono hB.size)⟩
      by_cases q5 : 5 < u
      case pos =>
        go_wp2_with fail
        go_ret
        exact ⟨by rw [HL.out, Pc.bad_all (b := Fr.node) HU.out (show Fr.node u = false from Pc.within_no (by omega))]; rfl, hB.trans (hb.mono hB.size)⟩
      go_wp2_with fail
      go_roundg (p.length - (j + 1))
      case rel => exact ⟨j + 1, by simp, by omega, rfl, Pc.good_next HR.out HU.out (show Fr.node u = true from Pc.within_yes (by omega)), hb⟩
      case measure => have := HK.out; omega
    ·
      have hj2 : j = p.length := by omega
      subst hj2
      go_wp2_with fail
      go_ret
      exact ⟨by rw [HL.out, Pc.good_all HR.out]; rfl, hB.trans (hb.mono hB.size)⟩

end Go.Proofs.Ytkkbblpofhenpaa

/- The document's Right of frames. -/
namespace Go.Proofs.Ytkkbblpofhenpaa
open Go.RowKit

set_option maxRecDepth 100000 in
set_option maxHeartbeats 8000000 in
theorem rfrright_any (v : Value) (f : Fr) (w : World) (h : FrIs false w 0 w.heap.size v f) : Calls Try.prog 37 #[v] w
    fun y w' => y = .returned (.bool (Fr.right f)) ∧ Below w.heap.size w w' := by
  obtain ⟨k, e, s, t, ps, i, n, c, p⟩ := f
  obtain ⟨A, B, x, y, rfl, h1, h2⟩ := h
  dsimp only at h1 h2 ⊢
  obtain ⟨_, _, he, hpl, hpm, _⟩ := id h1
  cases he
  obtain ⟨_, _, he, hql, hqm, _⟩ := id h2
  cases he
  unfold maxLen at hpm hqm
  by_cases k6 : k = 6
  ·
    subst k6
    rw [Fr.right_6]
    go_enter Try.func37, Try.ntmps37
    go_upto_region 1 with fail
    refine name_wp fun W0 hW0 => ?_
    have bx : Box W0 w.heap.size #[.int .i64 6, .int .i64 e, .int .i64 s, .int .i64 t, .slice A ps.length x, .int .i64 i, .int .i64 n, .int .i64 c, .slice B p.length y] 48 := hW0 ▸ Box.new _ _ _
    have hB : Below w.heap.size w W0 := hW0 ▸ (Below.refl _ _).alloc (Nat.le_refl _) _
    have hf : FrIs false W0 0 W0.heap.size (.agg #[.int .i64 6, .int .i64 e, .int .i64 s, .int .i64 t, .slice A ps.length x, .int .i64 i, .int .i64 n, .int .i64 c, .slice B p.length y]) ⟨6, e, s, t, ps, i, n, c, p⟩ := FrIs.of (f := ⟨6, e, s, t, ps, i, n, c, p⟩) (h1.fwd hB) (h2.fwd hB)
    clear hW0
    obtain ⟨d0, d1, d2, d3, d4, d5, d6, d7, d8⟩ := nine_cells bx
    go_wp2_with fail
    clear d0 d1 d2 d3 d4 d5 d6 d7 d8
    refine (rprobe_any _ _ _ hf).mono ?_
    rintro z w1 ⟨rfl, hb⟩
    go_wp2_with fail
    go_ret
    exact ⟨rfl, hB.trans (hb.mono hB.size)⟩
  have b6 : (k == 6) = false := by simpa using k6
  have hno := @Fr.right_no ⟨k, e, s, t, ps, i, n, c, p⟩ k6
  have h0 := @Fr.right_0 ⟨k, e, s, t, ps, i, n, c, p⟩
  have hn := @Fr.right_n ⟨k, e, s, t, ps, i, n, c, p⟩
  have h5 := @Fr.right_5 ⟨k, e, s, t, ps, i, n, c, p⟩
  unfold Fr.okRest at hno h0 hn h5
  dsimp only at hno h0 hn h5
  generalize Fr.right ⟨k, e, s, t, ps, i, n, c, p⟩ = r at hno h0 hn h5 ⊢
  have HN := Lib.hid hno; have H0 := Lib.hid h0; have HNN := Lib.hid hn; have H5 := Lib.hid h5; clear hno h0 hn h5
  go_enter Try.func37, Try.ntmps37
  go_upto_region 1 with fail
  refine name_wp fun W0 hW0 => ?_
  have bx : Box W0 w.heap.size #[.int .i64 k, .int .i64 e, .int .i64 s, .int .i64 t, .slice A ps.length x, .int .i64 i, .int .i64 n, .int .i64 c, .slice B p.length y] 48 := hW0 ▸ Box.new _ _ _
  have hB : Below w.heap.size w W0 := hW0 ▸ (Below.refl _ _).alloc (Nat.le_refl _) _
  have hf : FrIs false W0 0 W0.heap.size (.agg #[.int .i64 k, .int .i64 e, .int .i64 s, .int .i64 t, .slice A ps.length x, .int .i64 i, .int .i64 n, .int .i64 c, .slice B p.length y]) ⟨k, e, s, t, ps, i, n, c, p⟩ := FrIs.of (f := ⟨k, e, s, t, ps, i, n, c, p⟩) (h1.fwd hB) (h2.fwd hB)
  clear hW0
  have h1W := h1.fwd hB
  have H1 := Lib.hid h1W; clear h1W h1 h2
  obtain ⟨d0, d1, d2, d3, d4, d5, d6, d7, d8⟩ := nine_cells bx
  by_cases z0 : k < 0
  case pos =>
    go_wp2_with fail
    go_ret
    exact ⟨by rw [HN.out (by omega)]; rfl, hB⟩
  by_cases z1 : 6 < k
  case pos =>
    go_wp2_with fail
    go_ret
    exact ⟨by rw [HN.out (by omega)]; rfl, hB⟩
  go_wp2_with fail
  clear d0 d1 d2 d3 d4 d5 d6 d7 d8
  refine (rbare_any _ _ _ hf).mono ?_
  rintro z w1 ⟨rfl, hb⟩
  dsimp only
  replace bx := bx.next hb
  have h1W := H1.out.fwd hb
  have hB2 := hB.trans (hb.mono hB.size)
  clear hb hB H1 hf
  have hB := hB2; clear hB2
  have H1 := Lib.hid h1W; clear h1W
  cases hbb : decide (i = 0 ∧ n = 0 ∧ c = 0 ∧ p.length = 0)
  ·
    have zz := of_decide_eq_false hbb
    go_wp2_with fail
    go_ret
    exact ⟨by rw [HN.out (fun h => zz h.2.1)]; rfl, hB⟩
  have zz := of_decide_eq_true hbb
  clear hbb
  obtain ⟨d0, d1, d2, d3, d4, d5, d6, d7, d8⟩ := nine_cells bx
  by_cases z2 : e < 0
  case pos =>
    go_wp2_with fail
    go_ret
    exact ⟨by rw [HN.out (by omega)]; rfl, hB⟩
  by_cases z3 : 200 < e
  case pos =>
    go_wp2_with fail
    go_ret
    exact ⟨by rw [HN.out (by omega)]; rfl, hB⟩
  by_cases kp : 0 < k
  ·
    by_cases z4 : e < 1
    case pos =>
      go_wp2_with fail
      go_ret
      exact ⟨by rw [HN.out (by omega)]; rfl, hB⟩
    by_cases z5 : s = 0
    case neg =>
      have b : (s == 0) = false := by simpa using z5
      have b2 : (s != 0) = true := by simpa using z5
      go_wp2_with fail
      go_ret
      exact ⟨by rw [HN.out (by omega)]; rfl, hB⟩
    subst z5
    by_cases z6 : t = 0
    case neg =>
      have b : (t == 0) = false := by simpa using z6
      have b2 : (t != 0) = true := by simpa using z6
      go_wp2_with fail
      go_ret
      exact ⟨by rw [HN.out (by omega)]; rfl, hB⟩
    subst z6
    have b0 : (k == 0) = false := by simp only [beq_eq_false_iff_ne, ne_eq]; omega
    by_cases k5 : k = 5
    ·
      subst k5
      have hr5 := H5.out ⟨⟨by omega, by omega⟩, zz, ⟨by omega, by omega⟩, fun _ => by omega, fun _ => ⟨rfl, rfl⟩⟩ rfl
      have HR5 := Lib.hid hr5; clear hr5
      clear HN H0 HNN H5
      go_wp2_with fail
      clear d0 d1 d2 d3 d4 d5 d6 d7 d8
      go_loopg [3] ps.length (fun k i wr => ∃ j : Nat, i = .int .i64 (j : Int) ∧ j ≤ ps.length ∧ k = ps.length - j ∧ Pc.good Pc.right ps j ∧ Below w1.heap.size w1 wr)
      case atStart => exact ⟨0, rfl, by omega, by omega, Pc.good_zero _ _, Below.refl _ _⟩
      case round =>
        obtain ⟨j, rfl, hj, hk, hr, hb⟩ := hrel
        have HR := Lib.hid hr; have HK := Lib.hid hk; clear hr hk
        obtain ⟨d0, d1, d2, d3, d4, d5, d6, d7, d8⟩ := nine_cells (bx.next hb)
        by_cases hlt : j < ps.length
        ·
          obtain ⟨u, hu⟩ := Pc.get_at hlt
          obtain ⟨g, o, a3, a4, a5, he, _, hg, c0, c1, c2, c3, c4, c5, hp⟩ := (H1.out.fwd hb).arr.piece hu
          subst he
          have HU := Lib.hid hu; clear hu
          obtain ⟨_, _, _, he, ⟨A3, l3, rfl, _⟩, ⟨A4, l4, rfl, _⟩, ⟨A5, l5, rfl, _⟩⟩ := id hp
          cases he
          obtain ⟨rb, hrb⟩ : ∃ b, Pc.right u = b := ⟨_, rfl⟩
          have hcall := rright_any _ u _ hp
          rw [hrb] at hcall
          have HC := Lib.hid hcall; have HRB := Lib.hid hrb; clear hcall hrb hp
          go_wp2_with fail
          clear d0 d1 d2 d3 d4 d5 d6 d7 d8 c0 c1 c2 c3 c4 c5
          refine HC.out.mono ?_
          rintro z w2 ⟨rfl, hb2⟩
          replace hb := hb.trans (hb2.mono hb.size)
          clear hb2
          cases rb
          ·
            go_wp2_with fail
            go_ret
            exact ⟨by rw [HR5.out, Pc.bad_all HU.out HRB.out]; rfl, hB.trans (hb.mono hB.size)⟩
          ·
            go_wp2_with fail
            go_roundg (ps.length - (j + 1))
            case rel => exact ⟨j + 1, by simp, by omega, rfl, Pc.good_next HR.out HU.out HRB.out, hb⟩
            case measure => have := HK.out; omega
        ·
          have hj2 : j = ps.length := by omega
          subst hj2
          have hall : r = Pc.within (ps.length : Int) 1 6 := by rw [HR5.out, Pc.good_all HR.out]; rfl
          have HALL := Lib.hid hall; clear hall HR5
          have hB3 := hB.trans (hb.mono hB.size)
          have HB3 := Lib.hid hB3; clear hB3
          by_cases q1 : ps.length < 1
          ·
            go_wp2_with fail
            go_ret
            exact ⟨by rw [HALL.out, Pc.within_no (by omega)]; rfl, HB3.out⟩
          by_cases q2 : 6 < ps.length
          ·
            go_wp2_with fail
            go_ret
            refine ⟨?_, HB3.out⟩
            rw [HALL.out, Pc.within_no (by omega)]
            show Ending.returned (.bool (decide _)) = Ending.returned (.bool false)
            exact congrArg (fun b => Ending.returned (.bool b)) (decide_eq_false (by omega))
          ·
            go_wp2_with fail
            go_ret
            refine ⟨?_, HB3.out⟩
            rw [HALL.out, Pc.within_yes (by omega)]
            show Ending.returned (.bool (decide _)) = Ending.returned (.bool true)
            exact congrArg (fun b => Ending.returned (.bool b)) (decide_eq_true (by omega))
    ·
      have b5 : (k != 5) = true := by simpa using k5
      have b5' : (k == 5) = false := by simpa using k5
      have hrn := HNN.out ⟨⟨by omega, by omega⟩, zz, ⟨by omega, by omega⟩, fun _ => by omega, fun _ => ⟨rfl, rfl⟩⟩ (by omega) k5
      have HRN := Lib.hid hrn; clear hrn HN H0 HNN H5
      by_cases z7 : ps.length = 0
      ·
        rw [decide_eq_true z7] at HRN
        obtain rfl := List.eq_nil_of_length_eq_zero z7
        go_wp2_with fail
        go_ret
        exact ⟨by rw [HRN.out]; rfl, hB⟩
      ·
        have b : ((ps.length : Int) == 0) = false := by simp only [beq_eq_false_iff_ne, ne_eq]; omega
        rw [decide_eq_false z7] at HRN
        go_wp2_with fail
        go_ret
        exact ⟨by rw [HRN.out]; rfl, hB⟩
  ·
    obtain rfl : k = 0 := by omega
    have hr0 := H0.out ⟨⟨by omega, by omega⟩, zz, ⟨by omega, by omega⟩, fun h => absurd h kp, fun h => absurd h kp⟩ rfl
    have hno : ¬ (ps.length = 0 ∧ 1 ≤ s ∧ s ≤ 500 ∧ 0 ≤ t ∧ t ≤ 3) → r = false := fun h => by rw [hr0, decide_eq_false h]
    have hyes : (ps.length = 0 ∧ 1 ≤ s ∧ s ≤ 500 ∧ 0 ≤ t ∧ t ≤ 3) → r = true := fun h => by rw [hr0, decide_eq_true h]
    clear hr0 HN H0 HNN H5
    have HN := Lib.hid hno; have HY := Lib.hid hyes; clear hno hyes
    by_cases z7 : ps.length = 0
    case neg =>
      have b : ((ps.length : Int) == 0) = false := by simp only [beq_eq_false_iff_ne, ne_eq]; omega
      go_wp2_with fail
      go_ret
      exact ⟨by rw [HN.out (by omega)]; rfl, hB⟩
    obtain rfl := List.eq_nil_of_length_eq_zero z7
    by_cases z8 : s < 1
    case pos =>
      go_wp2_with fail
      go_ret
      exact ⟨by rw [HN.out (by omega)]; rfl, hB⟩
    by_cases z9 : 500 < s
    case pos =>
      go_wp2_with fail
      go_ret
      exact ⟨by rw [HN.out (by omega)]; rfl, hB⟩
    by_cases z10 : t < 0
    case pos =>
      go_wp2_with fail
      go_ret
      exact ⟨by rw [HN.out (by omega)]; rfl, hB⟩
    by_cases z11 : 3 < t
    case pos =>
      go_wp2_with fail
      go_ret
      refine ⟨?_, hB⟩
      rw [HN.out (by omega)]
      show Ending.returned (.bool (decide _)) = Ending.returned (.bool false)
      exact congrArg (fun b => Ending.returned (.bool b)) (decide_eq_false (by omega))
    go_wp2_with fail
    go_ret
    exact ⟨by rw [HY.out ⟨z7, by omega, by omega, by omega, by omega⟩]; rfl, hB⟩
end Go.Proofs.Ytkkbblpofhenpaa

/- The document's Encode of frames. -/
namespace Go.Proofs.Ytkkbblpofhenpaa
open Go.RowKit

namespace Fr
end Fr
theorem nameAny {P : Program} {Q : Exit → Act → World → Prop} {md : Region.Mode} {M : Nat} {wM : World} {ops : Array Oper} {fuel : Nat} {li : Array Bool} {a : Act} {w : World} (h : ∀ W, w = W → wpAnyM P md ops Q M wM fuel li a W) : wpAnyM P md ops Q M wM fuel li a w := h w rfl
end Go.Proofs.Ytkkbblpofhenpaa

/- Rows of the call's own that lead to what was there; the law's Refs of pieces; slices.Clone of pieces. -/
namespace Go.Proofs.Ytkkbblpofhenpaa
open Go.RowKit

theorem Try.infoRPiece : (Try.prog.info? 84).map (fun i => (i.zero, i.size, i.bytes)) = some (some (.agg #[.int .i64 0, .int .i64 0, .int .i64 0, .slice none 0 0, .slice none 0 0, .slice none 0 0]), 6, 96) := by kernel_rfl
theorem Try.infoPiece : (Try.prog.info? 79).map (fun i => (i.zero, i.size, i.bytes)) = some (some (.agg #[.int .i64 0, .int .i64 0, .int .i64 0, .slice none 0 0, .slice none 0 0, .slice none 0 0]), 6, 96) := by kernel_rfl

/-- v: a row of the call's own, in blocks from B on, whose elements lead to blocks ahead of hi. -/
def Top {α : Type} (r : Rep α) (e : TypeId) (hi B : Nat) (w : World) (v : Value) (xs : List α) : Prop :=
  ∃ cells, w.ownsRow B e r.size v xs.length cells ∧ r.all false w (rng 0 hi) cells xs
section
variable {α : Type} {r : Rep α} {e : TypeId} {hi B : Nat} {w w' : World} {v : Value} {xs : List α}
theorem Top.next (h : Top r e hi B w v xs) (hb : Below w.heap.size w w') (hB : hi ≤ w.heap.size) : Top r e hi B w' v xs := by
  obtain ⟨cells, h1, h2⟩ := h
  exact ⟨cells, own_below h1 hb, Rep.all_keep (fun b hb' => hb.block b (Nat.lt_of_lt_of_le hb'.2 hB)) h2⟩
theorem Top.slice (h : Top r e hi B w v xs) : SliceOn r false w (fun b => b < hi ∨ (B ≤ b ∧ b < w.heap.size)) v xs := by
  obtain ⟨cells, h1, h2⟩ := h
  exact SliceOn.of_own (base := B) (e := e) h1 (Rep.all_widen (fun b hb => .inl hb.2) h2) (fun g hg => .inr (h1.lt g hg))
theorem Top.empty (r : Rep α) (e : TypeId) (hi : Nat) (w : World) : Top r e hi w.heap.size (w.alloc (.cells #[] e)) (.slice (some ⟨w.heap.size, 0, none⟩) 0 0) [] :=
  ⟨[], own_lit (size := r.size) w.heap.size e 0 [] (by simp) (Nat.le_refl _) (by unfold maxLen; omega), rfl⟩
end
section
variable {P : Program} {w : World} {ops : Array Oper} {rest : List Oper} {o : Oper} {a : Act} {Q : Exit → Act → World → Prop}
theorem wpList_topB {α : Type} {r : Rep α} {xs : List α} {y : α} (hgd : o.guard = none) (s x : Operand) (t : TypeId) (ho : o.op = .call { callee := .builtin .append, args := #[s, x], argTypes := #[t, t] })
    (B : Nat) (e : TypeId) {z : Value} {bytes : Nat} (hinfo : (P.info? e).map (fun i => (i.zero, i.size, i.bytes)) = some (some z, r.size, bytes)) (ht : P.underlying t = some (.slice e))
    (hzs : z.cells.size = r.size) (hby : bytes ≤ 1000) (v : Value) (hs : a.eval s = v) {hi : Nat} (hrow : Top r e hi B w v xs) (hB : B ≤ w.heap.size) (hhi : hi ≤ B)
    (c H : Nat) (cs : List Value) (hx : a.eval x = .slice (some ⟨H, 0, none⟩) 1 c) (hH : w.heap.size = H) (hcs : r.is false w (rng 0 hi) cs y) (hn : xs.length ≤ 1000000)
    (h : ∀ v' w', Top r e hi B w' v' (xs ++ [y]) → Below B w w' → wpList P ops Q rest (a.put o.dst v') w') : wpList P ops Q (o :: rest) a (w.alloc (.cells cs.toArray e)) := by
  obtain ⟨cells, h1, h2⟩ := hrow
  refine wpList_appendB hgd s x t ho B e hinfo ht hzs r.pos v xs.length cells hs h1 1 c H cs hx hH (by rw [r.len hcs]; omega) (r.one hcs) (by unfold maxLen; omega) (Nat.le_trans (Nat.mul_le_mul (show xs.length + 1 ≤ 1000001 by omega) hby) (by omega)) hB ?_
  intro v' w' k1 _ k3 _
  have hk : ∀ b, rng 0 hi b → w'.heap[b]? = w.heap[b]? := fun b hb => k3.block b (Nat.lt_of_lt_of_le hb.2 hhi)
  exact h v' w' ⟨cells ++ cs, by rw [List.length_append]; exact k1, Rep.all_snoc (Rep.all_keep hk h2) (r.keep hcs hk)⟩ k3
end

set_option maxRecDepth 100000 in
set_option maxHeartbeats 2000000 in
theorem refs_any (v : Value) (ps : List Pc.Piece) (w : World) {hi : Nat} (h : SliceIs Rep.piece false w 0 hi v ps) (hhi : hi ≤ w.heap.size) (hn : ps.length ≤ 1000000) : Calls Try.prog 62 #[v] w
    fun y w' => (∃ u, y = .returned u ∧ SliceOn Rep.piece false w' (fun b => b < hi ∨ (w.heap.size ≤ b ∧ b < w'.heap.size)) u ps) ∧ Below w.heap.size w w' := by
  obtain ⟨A, c, rfl, l1, m1, h1⟩ := h
  unfold maxLen at m1
  go_enter Try.func62, Try.ntmps62
  go_wp2_with fail
  go_loopg [3, 4] ps.length (fun k u i wr => ∃ j : Nat, i = .int .i64 (j : Int) ∧ j ≤ ps.length ∧ k = ps.length - j ∧ Top Rep.piece 84 hi w.heap.size wr u (ps.take j) ∧ Below w.heap.size w wr)
  case atStart => exact ⟨0, rfl, by omega, by omega, Top.empty _ _ _ _, (Below.refl _ _).alloc (Nat.le_refl _) _⟩
  case round =>
    obtain ⟨j, rfl, hj, hk, ht, hb⟩ := hrel
    have HK := Lib.hid hk; clear hk
    by_cases hlt : j < ps.length
    · obtain ⟨x, hx⟩ := Pc.get_at hlt
      obtain ⟨g, o, a3, a4, a5, rfl, _, hg, c0, c1, c2, c3, c4, c5, hp⟩ := (h1.below hb hhi).piece hx
      have htk := Pc.take_next hx
      have HT := Lib.hid htk; clear htk hx h1
      obtain ⟨_, _, _, he, ⟨A3, k3, rfl, _⟩, ⟨A4, k4, rfl, _⟩, ⟨A5, k5, rfl, _⟩⟩ := id hp
      cases he
      have hpw := hp.widen (Nat.le_refl 0) (Nat.le_trans hhi hb.size)
      have HP := Lib.hid hp; have HPW := Lib.hid hpw; clear hp hpw
      have hnl : (ps.take j).length ≤ 1000000 := by rw [List.length_take]; omega
      go_wp2_with fail
      clear c0 c1 c2 c3 c4 c5
      refine (ref_any _ x _ HPW.out).mono ?_
      rintro e w1 ⟨rfl, hb1⟩
      have ht1 := ht.next hb1 (Nat.le_trans hhi hb.size)
      have hp1 := HP.out.below (hb1.mono hb.size) hhi
      obtain ⟨cs, hcv, hcs⟩ := hp1.cells
      have hce : cs = [.int .i64 x.node, .int .i64 x.state, .int .i64 x.steps, .slice A3 x.sent.length k3, .slice A4 x.inn.length k4, .slice A5 x.out.length k5] := by
        injection hcv with hcv
        have := congrArg Array.toList hcv
        simpa using this.symm
      subst hce
      have HC := Lib.hid hcs; clear hcs hcv hp1 ht
      replace hb := hb.trans (hb1.mono hb.size)
      clear hb1 HP HPW
      go_wp2_with (at_builtin; refine wpList_topB (r := Rep.piece) (y := x) rfl (.tmp 12) (.tmp 18) 46 rfl w.heap.size 84 Try.infoRPiece Try.underlying46 rfl (by omega) _ rfl ht1 hb.size hhi 1 _ _ rfl rfl HC.out hnl ?_; intro v2 w2 hnew hb3)
      rw [← HT.out] at hnew
      go_roundg (ps.length - (j + 1))
      case rel => exact ⟨j + 1, by simp, by omega, rfl, hnew, hb.trans hb3⟩
      case measure => have := HK.out; omega
    · rw [List.take_of_length_le (by omega)] at ht
      have hs := ht.slice
      have HS := Lib.hid hs; clear hs ht
      go_wp2_with fail
      go_ret
      exact ⟨⟨_, rfl, HS.out⟩, hb⟩
end Go.Proofs.Ytkkbblpofhenpaa
