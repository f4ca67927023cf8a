/- What chapter 11's laws say of a hue: Ref, Same; the document's Turn. -/
import Derived.Test.YtmbilaepeekglaaHuH
namespace Go.Proofs.Ytmbilaepeekglaa
open Go.RowKit Go.Maps

set_option maxRecDepth 100000 in
set_option maxHeartbeats 2000000 in
theorem ref6_any (n s t : Int) (A B C : Option Addr) (k l m k' l' m' : Nat) (w : World) : Calls Try.prog 25 #[.agg #[.int .i64 n, .int .i64 s, .int .i64 t, .slice A k k', .slice B l l', .slice C m m']] w
    fun x w' => x = .returned (.agg #[.int .i64 n, .int .i64 s, .int .i64 t, .slice A k k', .slice B l l', .slice C m m']) ∧ Below w.heap.size w w' := by
  go_enter Try.func25, Try.ntmps25
  go_wp2_with fail
  refine bodyPost_ret (v := .agg #[.int .i64 n, .int .i64 s, .int .i64 t, .slice A k k', .slice B l l', .slice C m m']) (by simp [results, Try.results25, go_sem]) rfl ⟨rfl, below_2 _ _ _⟩

set_option maxRecDepth 100000 in
set_option maxHeartbeats 4000000 in
theorem hueRef_any (e n s t : Int) (A B C : Option Addr) (k l m k' l' m' : Nat) (w : World) : Calls Try.prog 11 #[.agg #[.int .i64 e, .int .i64 n, .int .i64 s, .int .i64 t, .slice A k k', .slice B l l', .slice C m m']] w
    fun y w' => y = .returned (.agg #[.int .i64 e, .int .i64 n, .int .i64 s, .int .i64 t, .slice A k k', .slice B l l', .slice C m m']) ∧ Below w.heap.size w w' := by
  go_enter Try.func11, Try.ntmps11
  go_wp2_with fail
  refine name_wp fun W0 hW => ?_
  have bx : Box W0 w.heap.size #[.int .i64 e, .int .i64 n, .int .i64 s, .int .i64 t, .slice A k k', .slice B l l', .slice C m m'] 32 := hW ▸ (Box.new' _ _ (by simp)).alloc _
  have br : Box W0 (w.heap.size + 1) #[.int .i64 0, .int .i64 0, .int .i64 0, .int .i64 0, .slice none 0 0, .slice none 0 0, .slice none 0 0] 37 := hW ▸ Box.new' _ _ (by simp)
  have hB : Below w.heap.size w W0 := hW ▸ below_2 _ _ _
  clear hW
  replace bx := bx.next ((Below.refl _ _).drew)
  replace br := br.next ((Below.refl _ _).drew)
  replace hB := hB.drew
  have hE := Ext.refl (W0.drew)
  refine region_go 16 (by kernel_rfl) ?_
  obtain ⟨c0, c1, c2, c3, c4, c5, c6⟩ := seven_cells bx
  refine wpAny_go 16 0 [2, 3] 12 5 (by kernel_rfl) (by kernel_rfl) (fun _ _ _ _ _ h => h) (by kernel_rfl) (by rfl) (by rfl) (by kernel_rfl) ?_
  simp only [List.map_cons, List.map_nil, List.getD_cons_succ, List.getD_cons_zero]
  go_wp2_with fail
  change wpAnyM _ _ _ _ _ _ _ _ _ _
  clear c0 c1 c2 c3 c4 c5 c6
  obtain ⟨c0, c1, c2, c3, c4, c5, c6⟩ := seven_cells bx
  refine wpAny_reads 16 12 [0, 1] 15 3 (by kernel_rfl) (by kernel_rfl) (fun _ _ _ _ _ h => h) (by kernel_rfl) (by rfl) (by rfl) (by kernel_rfl) ?_
  simp only [List.map_cons, List.map_nil, List.getD_cons_succ, List.getD_cons_zero]
  go_wp2_with fail
  change _ → wpAnyM _ _ _ _ _ _ _ _ _ _; intro _
  clear c0 c1 c2 c3 c4 c5 c6
  refine wpAny_oneM 4 31 (by kernel_rfl) (by kernel_rfl) (of_decide_eq_true (by kernel_rfl)) (by rfl) ?_
  simp only [List.getD_cons_succ, List.getD_cons_zero]
  go_wp2_with fail
  refine (ref6_any n s t A B C k l m k' l' m' _).mono ?_
  rintro e w1 ⟨rfl, hb⟩
  replace bx := bx.next hb
  replace br := br.next hb
  replace hE := hE.trans (Ext.below hb (Nat.le_refl _))
  replace hB := hB.trans (hb.mono hB.size)
  clear hb
  go_wp2_with fail
  refine ⟨fun _ => hE, ?_⟩
  obtain ⟨f0, f1, f2, f3, f4, f5, f6⟩ := seven_free br
  obtain ⟨d0, d1, d2, d3, d4, d5, d6⟩ := seven_cells br
  have HR := Lib.hid br
  refine wpAny_go 16 31 [5, 6] 127 0 (by kernel_rfl) (by kernel_rfl) (fun _ _ _ _ _ h => h) (by kernel_rfl) (by rfl) (by rfl) (by kernel_rfl) ?_
  simp only [List.map_cons, List.map_nil, List.getD_cons_succ, List.getD_cons_zero]
  go_wp2_with fail
  change wpAnyM _ _ _ _ _ _ _ _ _ _
  clear f0 f1 f2 f3 f4 f5 f6 d0 d1 d2 d3 d4 d5 d6
  refine wpAny_endM (by kernel_rfl) (by kernel_rfl) ?_
  go_wp2_with fail
  have r := seven_box (a0 := .int .i64 e) (a1 := .int .i64 n) (a2 := .int .i64 s) (a3 := .int .i64 t) (a4 := .slice A k k') (a5 := .slice B l l') (a6 := .slice C m m') HR.out
  have hz := seven_size (w := w1) (b := w.heap.size + 1) (a0 := .int .i64 e) (a1 := .int .i64 n) (a2 := .int .i64 s) (a3 := .int .i64 t) (a4 := .slice A k k') (a5 := .slice B l l') (a6 := .slice C m m')
  have hbl := seven_below (b := w.heap.size + 1) (a0 := .int .i64 e) (a1 := .int .i64 n) (a2 := .int .i64 s) (a3 := .int .i64 t) (a4 := .slice A k k') (a5 := .slice B l l') (a6 := .slice C m m') hB (by omega)
  have hfar := fun (q : Nat) (hq : q ≠ w.heap.size + 1) => seven_far (w := w1) (b := w.heap.size + 1) (a0 := .int .i64 e) (a1 := .int .i64 n) (a2 := .int .i64 s) (a3 := .int .i64 t) (a4 := .slice A k k') (a5 := .slice B l l') (a6 := .slice C m m') hq
  unfold wseven at r
  obtain ⟨g0, g1, g2, g3, g4, g5, g6⟩ := seven_cells r
  refine bodyPost_ret (v := .agg #[.int .i64 e, .int .i64 n, .int .i64 s, .int .i64 t, .slice A k k', .slice B l l', .slice C m m']) (by simp [results, Try.results11, go_sem, g0, g1, g2, g3, g4, g5, g6]) rfl ⟨rfl, hbl⟩

set_option maxRecDepth 100000 in
set_option maxHeartbeats 4000000 in
theorem hostRef_any (n s t : Int) (A B : Option Addr) (k l k' l' : Nat) (w : World) : Calls Try.prog 12 #[.agg #[.int .i64 n, .int .i64 s, .int .i64 t, .slice A k k', .slice B l l']] w
    fun y w' => y = .returned (.agg #[.int .i64 n, .int .i64 s, .int .i64 t, .slice A k k', .slice B l l']) ∧ Below w.heap.size w w' := by
  go_enter Try.func12, Try.ntmps12
  go_wp2_with fail
  refine bodyPost_ret (v := .agg #[.int .i64 n, .int .i64 s, .int .i64 t, .slice A k k', .slice B l l']) (by simp [results, Try.results12, go_sem]) rfl ⟨rfl, below_2 _ _ _⟩
end Go.Proofs.Ytmbilaepeekglaa
