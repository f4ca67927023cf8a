/- Lemmas, walks and contracts that the statements of this seat are proved by. -/
import Derived.Test.YtkkbblpofhenpaaS11
import Derived.Test.YtkkbblpofhenpaaS10
import Derived.Test.YtkkbblpofhenpaaS8
import Derived.Test.YtkkbblpofhenpaaS4
/- lane.Push. -/
namespace Go.Proofs.Ytkkbblpofhenpaa
open Go.RowKit

/-- A lane whose row is new, and may be written. -/
def LaNew (w : World) (S : Nat → Prop) (B : Nat) (v : Value) (a : La) : Prop := ∃ A c, v = .agg #[.bool a.fifo, .int .i64 a.cap, .slice A a.l.length c] ∧ SliceOn Rep.frame false w (also S B w.heap.size) (.slice A a.l.length c) a.l ∧ (0 < a.l.length → ∃ g cur, A = some ⟨g, 0, none⟩ ∧ B ≤ g ∧ w.heap[g]? = some (.cells cur 37 (0, 0)) ∧ a.l.length * 9 ≤ cur.size)
theorem LaNew.on {w : World} {S : Nat → Prop} {B : Nat} {v : Value} {a : La} (h : LaNew w S B v a) : LaOn w (also S B w.heap.size) v a := by
  obtain ⟨A, c, rfl, h1, _⟩ := h; exact ⟨A, c, rfl, h1⟩
theorem LaNew.is_ {w : World} {S : Nat → Prop} {B : Nat} {v : Value} {a : La} (h : LaNew w S B v a) (hS : ∀ b, S b → b < B) (hB : B ≤ w.heap.size) : LaIs false w 0 w.heap.size v a :=
  h.on.is_ fun b hb => hb.elim (fun q => Nat.lt_of_lt_of_le (hS b q) hB) (fun q => q.2)
theorem LaNew.zero {w : World} {S : Nat → Prop} {B : Nat} : LaNew w S B (.agg #[.bool false, .int .i64 0, .slice none 0 0]) La.zero := ⟨none, 0, rfl, SliceOn.none_, fun h => absurd h (by simp [La.zero])⟩
theorem LaNew.next {w w' : World} {S : Nat → Prop} {B : Nat} {v : Value} {a : La} (h : LaNew w S B v a) (hb : Below w.heap.size w w') (hS : ∀ b, S b → b < w.heap.size) : LaNew w' S B v a := by
  obtain ⟨A, c, rfl, h1, h2⟩ := h
  refine ⟨A, c, rfl, (h1.keep fun b q => hb.block b (q.elim (hS b) (fun q => q.2))).widen fun b q => q.imp id fun q => ⟨q.1, Nat.lt_of_lt_of_le q.2 hb.size⟩, fun h0 => ?_⟩
  obtain ⟨g, cur, rfl, k1, k2, k3⟩ := h2 h0
  exact ⟨g, cur, rfl, k1, (hb.block g (lt_of_block k2)).trans k2, k3⟩
theorem LaNew.of {w w' : World} {S : Nat → Prop} {B gr n c : Nat} {cur : Array Value} {a : La} (hs : SliceOn Rep.frame false w (fun b => S b ∨ b = gr) (.slice (some ⟨gr, 0, none⟩) n c) a.l) (hrow : w.heap[gr]? = some (.cells cur 37 (0, 0))) (hB : B ≤ gr) (hsz : n * 9 ≤ cur.size) (hk : ∀ b, S b ∨ b = gr → w'.heap[b]? = w.heap[b]?) :
    LaNew w' S B (.agg #[.bool a.fifo, .int .i64 a.cap, .slice (some ⟨gr, 0, none⟩) n c]) a := by
  obtain ⟨A, c2, he, _⟩ := id hs
  injection he with h1 h2 h3
  subst h2
  have hg : w'.heap[gr]? = _ := (hk gr (.inr rfl)).trans hrow
  refine ⟨_, _, rfl, (hs.keep fun b hb => hk b hb).widen fun b hb => hb.imp id fun q => ?_, fun _ => ⟨gr, cur, rfl, hB, hg, hsz⟩⟩
  subst q
  exact ⟨hB, lt_of_block hg⟩
section
variable {w w0 : World} {g o B : Nat} {a0 a1 a2 a3 a4 a5 a6 a7 a8 : Value}
theorem row9_far {k : Nat} (h : k ≠ g) : (((((((((w.setCell ⟨g, o, none⟩ a0).setCell ⟨g, o + 1, none⟩ a1).setCell ⟨g, o + 2, none⟩ a2).setCell ⟨g, o + 3, none⟩ a3).setCell ⟨g, o + 4, none⟩ a4).setCell ⟨g, o + 5, none⟩ a5).setCell ⟨g, o + 6, none⟩ a6).setCell ⟨g, o + 7, none⟩ a7).setCell ⟨g, o + 8, none⟩ a8).heap[k]? = w.heap[k]? := by
  rw [heap_setCell_other _ _ _ _ h, heap_setCell_other _ _ _ _ h, heap_setCell_other _ _ _ _ h, heap_setCell_other _ _ _ _ h, heap_setCell_other _ _ _ _ h, heap_setCell_other _ _ _ _ h, heap_setCell_other _ _ _ _ h, heap_setCell_other _ _ _ _ h, heap_setCell_other _ _ _ _ h]
theorem row9_size : (((((((((w.setCell ⟨g, o, none⟩ a0).setCell ⟨g, o + 1, none⟩ a1).setCell ⟨g, o + 2, none⟩ a2).setCell ⟨g, o + 3, none⟩ a3).setCell ⟨g, o + 4, none⟩ a4).setCell ⟨g, o + 5, none⟩ a5).setCell ⟨g, o + 6, none⟩ a6).setCell ⟨g, o + 7, none⟩ a7).setCell ⟨g, o + 8, none⟩ a8).heap.size = w.heap.size := by
  simp only [World.size_setCell]
theorem row9_below (h : Below B w0 w) (hg : B ≤ g) : Below B w0 (((((((((w.setCell ⟨g, o, none⟩ a0).setCell ⟨g, o + 1, none⟩ a1).setCell ⟨g, o + 2, none⟩ a2).setCell ⟨g, o + 3, none⟩ a3).setCell ⟨g, o + 4, none⟩ a4).setCell ⟨g, o + 5, none⟩ a5).setCell ⟨g, o + 6, none⟩ a6).setCell ⟨g, o + 7, none⟩ a7).setCell ⟨g, o + 8, none⟩ a8) :=
  ((((((((h.setCell hg _).setCell hg _).setCell hg _).setCell hg _).setCell hg _).setCell hg _).setCell hg _).setCell hg _).setCell hg _
end
/-- A row of so many frames, and a lane's box that holds it; both are new. -/
def Pushed (a : La) (W : World) (u : Value) (w : World) : Prop :=
  ∃ gb gr, u = .pointer (some ⟨gb, 0, none⟩) ∧ W.heap.size ≤ gb ∧ W.heap.size ≤ gr ∧ gb ≠ gr ∧ Box w gb #[.bool a.fifo, .int .i64 a.cap, .slice (some ⟨gr, 0, none⟩) (a.l.length + 1) (a.l.length + 1)] 25 ∧ w.heap[gr]? = some (.cells (madeCells (Value.agg #[.int .i64 0, .int .i64 0, .int .i64 0, .int .i64 0, .slice none 0 0, .int .i64 0, .int .i64 0, .int .i64 0, .slice none 0 0]).cells ((a.l.length + 1) * 9)) 37 (0, 0)) ∧ Below W.heap.size W w
theorem Pushed.one (a : La) (W : World) : Pushed a W (.pointer (some ⟨W.heap.size + 1, 0, none⟩)) ((W.alloc (.cells (madeCells (Value.agg #[.int .i64 0, .int .i64 0, .int .i64 0, .int .i64 0, .slice none 0 0, .int .i64 0, .int .i64 0, .int .i64 0, .slice none 0 0]).cells ((a.l.length + 1) * 9)) 37)).alloc (.cells #[.bool a.fifo, .int .i64 a.cap, .slice (some ⟨W.heap.size, 0, none⟩) (a.l.length + 1) (a.l.length + 1)] 25)).drew :=
  ⟨W.heap.size + 1, W.heap.size, rfl, Nat.le_succ _, Nat.le_refl _, by omega, (drew_block _ _).trans (Box.at' _ _ (by simp)), (drew_block _ _).trans ((heap_alloc_old _ _ (by simp)).trans (heap_alloc_new _ _)), (((Below.refl _ _).alloc (Nat.le_refl _) _).alloc (by simp) _).drew⟩
theorem Pushed.two (a : La) (W : World) : Pushed a W (.pointer (some ⟨W.heap.size, 0, none⟩)) ((W.alloc (.cells #[.bool a.fifo, .int .i64 a.cap, .slice (some ⟨W.heap.size + 1, 0, none⟩) (a.l.length + 1) (a.l.length + 1)] 25)).alloc (.cells (madeCells (Value.agg #[.int .i64 0, .int .i64 0, .int .i64 0, .int .i64 0, .slice none 0 0, .int .i64 0, .int .i64 0, .int .i64 0, .slice none 0 0]).cells ((a.l.length + 1) * 9)) 37)).drew :=
  ⟨W.heap.size, W.heap.size + 1, rfl, Nat.le_refl _, Nat.le_succ _, by omega, (drew_block _ _).trans ((Box.at' _ _ rfl).alloc _), (drew_block _ _).trans (by have := heap_alloc_new (W.alloc (.cells #[.bool a.fifo, .int .i64 a.cap, .slice (some ⟨W.heap.size + 1, 0, none⟩) (a.l.length + 1) (a.l.length + 1)] 25)) (.cells (madeCells (Value.agg #[.int .i64 0, .int .i64 0, .int .i64 0, .int .i64 0, .slice none 0 0, .int .i64 0, .int .i64 0, .int .i64 0, .slice none 0 0]).cells ((a.l.length + 1) * 9)) 37); simpa using this), (((Below.refl _ _).alloc (Nat.le_refl _) _).alloc (by simp) _).drew⟩
theorem made_drop (n : Nat) : (madeCells (Value.agg #[.int .i64 0, .int .i64 0, .int .i64 0, .int .i64 0, .slice none 0 0, .int .i64 0, .int .i64 0, .int .i64 0, .slice none 0 0]).cells ((n + 1) * 9)).toList.drop (n * 9) = [.int .i64 0, .int .i64 0, .int .i64 0, .int .i64 0, .slice none 0 0, .int .i64 0, .int .i64 0, .int .i64 0, .slice none 0 0] := by
  apply List.ext_getElem?
  intro i
  rw [List.getElem?_drop]
  rcases Nat.lt_or_ge i 9 with h | h
  · have e : (n * 9 + i) % 9 = i := by omega
    have hl : n * 9 + i < (n + 1) * 9 := by omega
    simp only [madeCells, Array.toList_map, Array.toList_range, List.getElem?_map, List.getElem?_range hl, Option.map_some]
    have hc : i = 0 ∨ i = 1 ∨ i = 2 ∨ i = 3 ∨ i = 4 ∨ i = 5 ∨ i = 6 ∨ i = 7 ∨ i = 8 := by omega
    rw [show (Value.agg #[.int .i64 0, .int .i64 0, .int .i64 0, .int .i64 0, .slice none 0 0, .int .i64 0, .int .i64 0, .int .i64 0, .slice none 0 0]).cells.size = 9 from rfl, e]
    rcases hc with rfl | rfl | rfl | rfl | rfl | rfl | rfl | rfl | rfl <;> rfl
  · rw [List.getElem?_eq_none (by simp [madeCells]; omega), List.getElem?_eq_none (by simpa using h)]
theorem cell_behind {w : World} {g o : Nat} {cs l : List Value} {e : TypeId} {u : Value} (h : w.heap[g]? = some (.cells (cs ++ l).toArray e (0, 0))) (ho : cs.length = o) (i : Nat) (hu : l[i]? = some u) : w.cell? ⟨g, o + i, none⟩ = some u := by
  rw [blk_cell h]
  subst ho
  rw [List.getElem?_toArray, List.getElem?_append_right (Nat.le_add_right _ _), Nat.add_sub_cancel_left]
  exact hu

set_option maxRecDepth 100000 in
set_option maxHeartbeats 1000000 in
theorem lapush_right (v vf : Value) (a : La) (f : Fr) (w : World) (S : Nat → Prop) (hS : ∀ b, S b → b < w.heap.size) (h : LaOn w S v a) (hf : FrOn false w S vf f) (hn : a.l.length < 1000000) (HR : Hid (Fr.right f = true)) : Calls Try.prog 19 #[v, vf] w
    fun y w' => (∃ u, y = .returned (.tuple #[u, .int .i64 (La.pushE a f)]) ∧ LaNew w' S w.heap.size u (La.push a f)) ∧ Below w.heap.size w w' := by
  obtain ⟨A, c, rfl, h1⟩ := h
  obtain ⟨pA, pB, pk, pl, he, _, _⟩ := id hf
  subst he
  have hl := (h1.all_ hS).len_le
  have hfi := hf.is_ hS
  have HSS := Lib.hid hS; clear hS
  go_enter Try.func19, Try.ntmps19
  go_upto_region 1 with fail
  refine name_wp fun W0 hW0 => ?_
  have bx : Box W0 w.heap.size #[.bool a.fifo, .int .i64 a.cap, .slice A a.l.length c] 25 := hW0 ▸ ((Box.at' _ _ rfl).alloc _).alloc _
  have bf : Box W0 (w.heap.size + 1) #[.int .i64 f.kind, .int .i64 f.epoch, .int .i64 f.seq, .int .i64 f.letter, .slice pA f.pieces.length pk, .int .i64 f.init, .int .i64 f.num, .int .i64 f.count, .slice pB f.path.length pl] 37 := hW0 ▸ (Box.at' _ _ (by simp)).alloc _
  have b4 : Box W0 (w.heap.size + 1 + 1) #[.bool false, .int .i64 0, .slice none 0 0] 25 := hW0 ▸ Box.at' _ _ (by simp)
  have hB : Below w.heap.size w W0 := hW0 ▸ (((Below.refl _ _).alloc (Nat.le_refl _) _).alloc (by simp) _).alloc (by simp; omega) _
  clear hW0
  have hW0 := b4.lt
  have hp := hfi.next hB
  clear hfi
  have HF0 := Lib.hid hf
  clear hf
  have HB0 := Lib.hid hB; have HW0 := Lib.hid hW0; clear hB hW0
  have hs := h1.keep (fun b q => HB0.out.block b (HSS.out b q))
  clear h1
  obtain ⟨c0, c1, c2, c3, c4, c5, c6, c7, c8⟩ := nine_cells bf
  go_wp2_with fail
  clear c0 c1 c2 c3 c4 c5 c6 c7 c8
  refine (cright hp HR.out).mono ?_
  rintro z w1 ⟨rfl, hb⟩
  replace bx := bx.next hb; replace bf := bf.next hb; replace b4 := b4.next hb; replace hs := hs.keep (fun b q => (hb.mono HB0.out.size).block b (HSS.out b q))
  have hB1 := HB0.out.trans (hb.mono HB0.out.size)
  have hs1 := hb.size
  have HB1 := Lib.hid hB1; have HS1 := Lib.hid hs1; clear hB1 hs1 hb hp
  go_upto_region 3 with fail
  go_cut [6] (fun u wx => Pushed a w1 u wx)
  case first =>
    have hz : (Try.prog.info? 37).isSome = true := by kernel_rfl
    obtain ⟨i0, hi0, hz0, hz1, hz2⟩ := info_parts Try.infoFrame
    have hn1 : ((a.l.length : Int) + 1).toNat = a.l.length + 1 := by omega
    have hmk : ∀ w2 : World, (Instr.makeSlice 23 (.int .i64 ((a.l.length : Int) + 1)) (.int .i64 ((a.l.length : Int) + 1))).run Try.prog w2 = _ := fun w2 => run_make (P := Try.prog) w2 23 37 i0 _ Try.underlying23 hi0 hz0 .i64 .i64 ((a.l.length : Int) + 1) ((a.l.length : Int) + 1) (by omega) (Int.le_refl _) (by rw [hz2]; omega) (by omega)
    simp only [hn1, hz1] at hmk
    clear hi0 hz0 hz1 hz2 hz hn1
    obtain ⟨d0, d1, d2⟩ := three_cells bx
    have hbl := bx.lt
    go_region
    · go_wp2_with fail
      go_meet
      exact Pushed.one _ _
    · go_wp2_with fail
      go_meet
      exact Pushed.two _ _
  case rest =>
    obtain ⟨gb, gr, rfl, k1, k2, k3, bg, hrow, hb⟩ := hcut
    obtain ⟨W2, rfl⟩ : ∃ x : World, x = wc := ⟨_, rfl⟩
    replace bx := bx.next hb; replace bf := bf.next hb; replace b4 := b4.next hb
    have hB2 := HB1.out.trans (hb.mono HB1.out.size)
    have hs2 := hs.keep (fun b q => (hb.mono HB1.out.size).block b (HSS.out b q))
    have hwz : w.heap.size + 1 + 1 < w1.heap.size := Nat.lt_of_lt_of_le HW0.out HS1.out
    clear hs hb
    obtain ⟨cells, hall, hcells⟩ := hs2.arr
    have hcl : cells.length = a.l.length * 9 := Rep.all_len hall
    have hone := Rep.all_one hall
    obtain ⟨d0, d1, d2⟩ := three_cells bx
    obtain ⟨g0, g1, g2⟩ := three_cells bg
    have hbl := bx.lt; have hgl := bg.lt
    have HALL := Lib.hid hall; have HCELLS := Lib.hid hcells; have HONE := Lib.hid hone; have HCL := Lib.hid hcl; have HROW := Lib.hid hrow; clear hall hcells hone hcl hrow hs2
    go_upto_region 5 with (refine wpList_copy_new rfl (.tmp 22) (.tmp 24) 23 23 rfl 37 9 Try.underlying23 (by kernel_rfl) gr (a.l.length + 1) (a.l.length + 1) A a.l.length c rfl rfl _ 37 HROW.out cells HCL.out (Nat.le_succ _) (fun h0 => by obtain ⟨g2, o2, e, _, h2⟩ := HCELLS.out h0; exact ⟨g2, o2, e, fun j v hj => (h2 j v hj).1⟩) (by rw [HCL.out]; simp [madeCells]; omega) HONE.out ?_; intro w3 hrow3 hfar3 hsz3 hbl3)
    clear d0 d1 d2
    clear g0 g1 g2
    rw [HCL.out, made_drop] at hrow3
    have bx3 : Box w3 w.heap.size #[.bool a.fifo, .int .i64 a.cap, .slice A a.l.length c] 25 := (hfar3 _ (by omega)).trans bx
    have bf3 : Box w3 (w.heap.size + 1) #[.int .i64 f.kind, .int .i64 f.epoch, .int .i64 f.seq, .int .i64 f.letter, .slice pA f.pieces.length pk, .int .i64 f.init, .int .i64 f.num, .int .i64 f.count, .slice pB f.path.length pl] 37 := (hfar3 _ (by omega)).trans bf
    have b43 : Box w3 (w.heap.size + 1 + 1) #[.bool false, .int .i64 0, .slice none 0 0] 25 := (hfar3 _ (by omega)).trans b4
    have bg3 : Box w3 gb #[.bool a.fifo, .int .i64 a.cap, .slice (some ⟨gr, 0, none⟩) (a.l.length + 1) (a.l.length + 1)] 25 := (hfar3 _ k3).trans bg
    have hB3 := hB2.trans (hbl3.mono (by omega))
    clear bx bf b4 bg hB2 hbl3 hbl hgl
    have e0 : w3.cell? ⟨gr, a.l.length * 9, none⟩ = some (.int .i64 0) := cell_behind hrow3 HCL.out 0 rfl
    have e1 : w3.cell? ⟨gr, a.l.length * 9 + 1, none⟩ = some (.int .i64 0) := cell_behind hrow3 HCL.out 1 rfl
    have e2 : w3.cell? ⟨gr, a.l.length * 9 + 2, none⟩ = some (.int .i64 0) := cell_behind hrow3 HCL.out 2 rfl
    have e3 : w3.cell? ⟨gr, a.l.length * 9 + 3, none⟩ = some (.int .i64 0) := cell_behind hrow3 HCL.out 3 rfl
    have e4 : w3.cell? ⟨gr, a.l.length * 9 + 4, none⟩ = some (.slice none 0 0) := cell_behind hrow3 HCL.out 4 rfl
    have e5 : w3.cell? ⟨gr, a.l.length * 9 + 5, none⟩ = some (.int .i64 0) := cell_behind hrow3 HCL.out 5 rfl
    have e6 : w3.cell? ⟨gr, a.l.length * 9 + 6, none⟩ = some (.int .i64 0) := cell_behind hrow3 HCL.out 6 rfl
    have e7 : w3.cell? ⟨gr, a.l.length * 9 + 7, none⟩ = some (.int .i64 0) := cell_behind hrow3 HCL.out 7 rfl
    have e8 : w3.cell? ⟨gr, a.l.length * 9 + 8, none⟩ = some (.slice none 0 0) := cell_behind hrow3 HCL.out 8 rfl
    have f0 : w3.frozen? ⟨gr, a.l.length * 9, none⟩ = false := by simp [World.frozen?, hrow3]
    have f1 : w3.frozen? ⟨gr, a.l.length * 9 + 1, none⟩ = false := by simp [World.frozen?, hrow3]
    have f2 : w3.frozen? ⟨gr, a.l.length * 9 + 2, none⟩ = false := by simp [World.frozen?, hrow3]
    have f3 : w3.frozen? ⟨gr, a.l.length * 9 + 3, none⟩ = false := by simp [World.frozen?, hrow3]
    have f4 : w3.frozen? ⟨gr, a.l.length * 9 + 4, none⟩ = false := by simp [World.frozen?, hrow3]
    have f5 : w3.frozen? ⟨gr, a.l.length * 9 + 5, none⟩ = false := by simp [World.frozen?, hrow3]
    have f6 : w3.frozen? ⟨gr, a.l.length * 9 + 6, none⟩ = false := by simp [World.frozen?, hrow3]
    have f7 : w3.frozen? ⟨gr, a.l.length * 9 + 7, none⟩ = false := by simp [World.frozen?, hrow3]
    have f8 : w3.frozen? ⟨gr, a.l.length * 9 + 8, none⟩ = false := by simp [World.frozen?, hrow3]
    obtain ⟨d0, d1, d2⟩ := three_cells bx3
    obtain ⟨g0, g1, g2⟩ := three_cells bg3
    obtain ⟨c0, c1, c2, c3, c4, c5, c6, c7, c8⟩ := nine_cells bf3
    have hbl3 := bx3.lt; have hbf3 := bf3.lt; have hgl3 := bg3.lt
    have hrl3 := lt_of_block hrow3
    have HROW3 := Lib.hid hrow3; clear hrow3
    go_upto_region 6 with fail
    refine name_wp fun w4 hw4 => ?_
    have hrow4 : w4.heap[gr]? = some (.cells (cells ++ ([.int .i64 f.kind, .int .i64 f.epoch, .int .i64 f.seq, .int .i64 f.letter, .slice pA f.pieces.length pk, .int .i64 f.init, .int .i64 f.num, .int .i64 f.count, .slice pB f.path.length pl] : List Value)).toArray 37 (0, 0)) := by subst hw4; exact nine_last HROW3.out HCL.out
    have hf4 : ∀ k, k ≠ gr → w4.heap[k]? = w3.heap[k]? := by intro k hk; subst hw4; exact row9_far hk
    have hz4 : w4.heap.size = w3.heap.size := by subst hw4; exact row9_size
    have hb4 : Below w.heap.size w w4 := by subst hw4; exact row9_below hB3 (by omega)
    clear hw4
    clear c0 c1 c2 c3 c4 c5 c6 c7 c8
    clear e0 e1 e2 e3 e4 e5 e6 e7 e8
    clear f0 f1 f2 f3 f4 f5 f6 f7 f8
    clear d0 d1 d2
    clear g0 g1 g2
    have bg4 : Box w4 gb #[.bool a.fifo, .int .i64 a.cap, .slice (some ⟨gr, 0, none⟩) (a.l.length + 1) (a.l.length + 1)] 25 := (hf4 _ k3).trans bg3
    have b44 : Box w4 (w.heap.size + 1 + 1) #[.bool false, .int .i64 0, .slice none 0 0] 25 := (hf4 _ (by omega)).trans b43
    have hall4 : Rep.frame.all false w4 (fun b => S b ∨ b = gr) (cells ++ fcells f (.slice pA f.pieces.length pk) (.slice pB f.path.length pl)) (La.more a f).l := Rep.all_snoc (Rep.all_widen (fun b hb => .inl hb) (Rep.all_keep (fun b hb => (hf4 b (by have := HSS.out b hb; omega)).trans (hfar3 b (by have := HSS.out b hb; omega))) HALL.out)) (Rep.frame.widen (HF0.out.keep (fun b hb => hb4.block b (HSS.out b hb))).rep (fun b hb => .inl hb))
    have hml : a.l.length + 1 = (La.more a f).l.length := by simp [La.more]
    have hsl : SliceOn Rep.frame false w4 (fun b => S b ∨ b = gr) (.slice (some ⟨gr, 0, none⟩) (a.l.length + 1) (a.l.length + 1)) (La.more a f).l := SliceOn.of_block hrow4 hall4 (.inr rfl) hml (Nat.le_of_eq hml.symm) (by unfold maxLen; omega)
    have hsz4 : (a.l.length + 1) * 9 ≤ (cells ++ ([.int .i64 f.kind, .int .i64 f.epoch, .int .i64 f.seq, .int .i64 f.letter, .slice pA f.pieces.length pk, .int .i64 f.init, .int .i64 f.num, .int .i64 f.count, .slice pB f.path.length pl] : List Value)).toArray.size := by have := HCL.out; simp [this]; omega
    have hnew : LaNew w4 S w.heap.size (.agg #[.bool a.fifo, .int .i64 a.cap, .slice (some ⟨gr, 0, none⟩) (a.l.length + 1) (a.l.length + 1)]) (La.more a f) := LaNew.of (a := La.more a f) hsl hrow4 (by omega) hsz4 (fun _ _ => rfl)
    have HSL := Lib.hid hsl; have HROW4 := Lib.hid hrow4; have HSZ4 := Lib.hid hsz4; clear hsl hsz4 hml
    clear hrow4 hall4 bg3 bf3 b43 bx3
    have hright := laright_any _ (La.more a f) w4 (hnew.is_ HSS.out hb4.size) (by simp [La.more]; omega)
    obtain ⟨q, hq⟩ : ∃ q, La.right (La.more a f) = q := ⟨_, rfl⟩
    rw [hq] at hright
    have HNEW := Lib.hid hnew; have HQ := Lib.hid hq; have HRT := Lib.hid hright; have HB4 := Lib.hid hb4; clear hnew hq hright hb4 hB3 hfar3 hf4 HALL HROW3 HROW HONE HCELLS HF0
    obtain ⟨g0, g1, g2⟩ := three_cells bg4
    obtain ⟨z0, z1, z2⟩ := three_cells b44
    have hgl4 := bg4.lt; have hzl4 := b44.lt
    go_wp2_with fail
    refine HRT.out.mono ?_
    rintro z w5 ⟨rfl, hb⟩
    clear g0 g1 g2 z0 z1 z2
    replace bg4 := bg4.next hb; replace b44 := b44.next hb
    obtain ⟨g0, g1, g2⟩ := three_cells bg4
    obtain ⟨z0, z1, z2⟩ := three_cells b44
    have zf0 := three_free b44 0
    have zf1 := three_free b44 1
    have zf2 := three_free b44 2
    have hgl5 := bg4.lt; have hzl5 := b44.lt
    have HB5 := Lib.hid (HB4.out.trans (hb.mono HB4.out.size)); have HK5 := Lib.hid (hb.block); clear hb; clear HNEW
    cases q with
    | false =>
      go_wp2_with fail
      refine bodyPost_ret (v := .tuple #[.agg #[.bool false, .int .i64 0, .slice none 0 0], .int .i64 6]) (by simp [results, Try.results19, go_sem, z0, z1, z2]) rfl ?_
      exact ⟨⟨_, by rw [La.pushE, if_pos HR.out, HQ.out]; rfl, by rw [La.push, HR.out, HQ.out]; exact LaNew.zero⟩, ((HB5.out.setCell (by simp; omega) _).setCell (by simp; omega) _).setCell (by simp; omega) _⟩
    | true =>
      go_wp2_with fail
      refine bodyPost_ret (v := .tuple #[.agg #[.bool a.fifo, .int .i64 a.cap, .slice (some ⟨gr, 0, none⟩) (a.l.length + 1) (a.l.length + 1)], .int .i64 0]) (by simp [results, Try.results19, go_sem, z0, z1, z2]) rfl ?_
      exact ⟨⟨_, by rw [La.pushE, if_pos HR.out, HQ.out]; rfl, by rw [La.push, HR.out, HQ.out]; exact LaNew.of (a := La.more a f) HSL.out HROW4.out (by omega) HSZ4.out (fun b hb => by have hb := hb.imp (HSS.out b) id; rw [heap_setCell_other _ _ _ _ (by simp; omega), heap_setCell_other _ _ _ _ (by simp; omega), heap_setCell_other _ _ _ _ (by simp; omega)]; exact HK5.out b (by omega))⟩, (((HB5.out.setCell (by simp; omega) _).setCell (by simp; omega) _).setCell (by simp; omega) _)⟩
set_option maxRecDepth 100000 in
set_option maxHeartbeats 1000000 in
theorem lapush_wrong (v vf : Value) (a : La) (f : Fr) (w : World) (S : Nat → Prop) (hS : ∀ b, S b → b < w.heap.size) (h : LaOn w S v a) (hf : FrOn false w S vf f) (HR : Hid (Fr.right f = false)) : Calls Try.prog 19 #[v, vf] w
    fun y w' => (∃ u, y = .returned (.tuple #[u, .int .i64 (La.pushE a f)]) ∧ LaNew w' S w.heap.size u (La.push a f)) ∧ Below w.heap.size w w' := by
  obtain ⟨A, c, rfl, h1⟩ := h
  obtain ⟨pA, pB, pk, pl, he, _, _⟩ := id hf
  subst he
  have hl := (h1.all_ hS).len_le
  have hfi := hf.is_ hS
  have HSS := Lib.hid hS; clear hS
  go_enter Try.func19, Try.ntmps19
  go_upto_region 1 with fail
  refine name_wp fun W0 hW0 => ?_
  have bf : Box W0 (w.heap.size + 1) #[.int .i64 f.kind, .int .i64 f.epoch, .int .i64 f.seq, .int .i64 f.letter, .slice pA f.pieces.length pk, .int .i64 f.init, .int .i64 f.num, .int .i64 f.count, .slice pB f.path.length pl] 37 := hW0 ▸ (Box.at' _ _ (by simp)).alloc _
  have b4 : Box W0 (w.heap.size + 1 + 1) #[.bool false, .int .i64 0, .slice none 0 0] 25 := hW0 ▸ Box.at' _ _ (by simp)
  have hB : Below w.heap.size w W0 := hW0 ▸ (((Below.refl _ _).alloc (Nat.le_refl _) _).alloc (by simp) _).alloc (by simp; omega) _
  clear hW0
  have hp := hfi.next hB
  clear hf h1 hfi
  obtain ⟨c0, c1, c2, c3, c4, c5, c6, c7, c8⟩ := nine_cells bf
  have hbl := bf.lt; have hzl := b4.lt
  go_wp2_with fail
  clear c0 c1 c2 c3 c4 c5 c6 c7 c8
  refine (cright hp HR.out).mono ?_
  rintro z w1 ⟨rfl, hb⟩
  replace b4 := b4.next hb
  obtain ⟨z0, z1, z2⟩ := three_cells b4
  have zf0 := three_free b4 0
  have zf1 := three_free b4 1
  have zf2 := three_free b4 2
  have hz4 := b4.lt
  have hB1 := hB.trans (hb.mono hB.size)
  go_wp2_with fail
  refine bodyPost_ret (v := .tuple #[.agg #[.bool false, .int .i64 0, .slice none 0 0], .int .i64 4]) (by simp [results, Try.results19, go_sem, z0, z1, z2]) rfl ?_
  exact ⟨⟨_, by rw [La.pushE, HR.out]; rfl, by rw [La.push, HR.out]; exact LaNew.zero⟩, ((hB1.setCell (by simp; omega) _).setCell (by simp; omega) _).setCell (by simp; omega) _⟩
/-- lane.Push. -/
theorem lapush_any (v vf : Value) (a : La) (f : Fr) (w : World) (S : Nat → Prop) (hS : ∀ b, S b → b < w.heap.size) (h : LaOn w S v a) (hf : FrOn false w S vf f) (hn : a.l.length < 1000000) : Calls Try.prog 19 #[v, vf] w
    fun y w' => (∃ u, y = .returned (.tuple #[u, .int .i64 (La.pushE a f)]) ∧ LaNew w' S w.heap.size u (La.push a f)) ∧ Below w.heap.size w w' := by
  cases hr : Fr.right f with
  | true => exact lapush_right v vf a f w S hS h hf hn (Lib.hid hr)
  | false => exact lapush_wrong v vf a f w S hS h hf (Lib.hid hr)
end Go.Proofs.Ytkkbblpofhenpaa

/- slices.Grow of nil, slices.Concat of two, for frames. -/
namespace Go.Proofs.Ytkkbblpofhenpaa
open Go.RowKit

theorem zero9_one (n : Nat) : ∀ u ∈ (Builtin.zeroCells (Value.agg #[.int .i64 0, .int .i64 0, .int .i64 0, .int .i64 0, .slice none 0 0, .int .i64 0, .int .i64 0, .int .i64 0, .slice none 0 0]).cells n).toList, u.oneCell' = true := by
  intro u hu
  simp only [Builtin.zeroCells, Array.toList_map, List.mem_map] at hu
  obtain ⟨i, _, rfl⟩ := hu
  have h : i % 9 < 9 := Nat.mod_lt _ (by omega)
  have e : i % 9 = 0 ∨ i % 9 = 1 ∨ i % 9 = 2 ∨ i % 9 = 3 ∨ i % 9 = 4 ∨ i % 9 = 5 ∨ i % 9 = 6 ∨ i % 9 = 7 ∨ i % 9 = 8 := by omega
  rw [show (Value.agg #[.int .i64 0, .int .i64 0, .int .i64 0, .int .i64 0, .slice none 0 0, .int .i64 0, .int .i64 0, .int .i64 0, .slice none 0 0]).cells.size = 9 from rfl]
  rcases e with e | e | e | e | e | e | e | e | e <;> rw [e] <;> rfl
theorem own_none_at {w : World} {B n : Nat} {e : TypeId} {size : Nat} {v : Value} {xs : List Value} (h : w.ownsRow B e size v n xs) (hn : 0 < n) : ∃ g cap, v = .slice (some ⟨g, 0, none⟩) n cap ∧ n ≤ cap ∧ cap ≤ maxLen ∧ w.ownsRow B e size (.slice (some ⟨g, 0, none⟩) 0 cap) 0 [] := by
  rcases h.2 with ⟨_, h0⟩ | ⟨g, cap, cur, rfl, hb, hg, h1, h2, h3, h4⟩
  · omega
  · exact ⟨g, cap, rfl, h1, h2, by simp, .inr ⟨g, cap, cur, rfl, hb, hg, Nat.zero_le _, h2, h3, by simp⟩⟩

set_option maxRecDepth 100000 in
set_option maxHeartbeats 1000000 in
theorem lagrow_zero (w : World) : Calls Try.prog 113 #[.slice none 0 0, .int .i64 0] w fun y w' => y = .returned (.slice none 0 0) ∧ Below w.heap.size w w' := by
  have hB := Below.refl w.heap.size w
  go_enter Try.func113, Try.ntmps113
  go_wp2_with fail
  go_ret
  exact ⟨rfl, hB⟩
set_option maxRecDepth 100000 in
set_option maxHeartbeats 1000000 in
theorem lagrow_more (n : Nat) (w : World) (h0 : 0 < n) (hn : n ≤ 1000000) : Calls Try.prog 113 #[.slice none 0 0, .int .i64 n] w fun y w' => (∃ u, y = .returned u ∧ w'.ownsRow w.heap.size 37 9 u 0 []) ∧ Below w.heap.size w w' := by
  have h1 : ¬ ((n : Int) < 0) := by omega
  have h3 : wrap64 (n : Int) = (n : Int) := by unfold wrap64; omega
  have h4 : (n : Int) > 0 := by omega
  have hone := zero9_one n
  go_enter Try.func113, Try.ntmps113
  go_wp2_with (at_builtin; (refine wpList_append_zeros (P := Try.prog) rfl (.tmp 20) (.tmp 21) 23 3 rfl w.heap.size 37 .i64 .i64 Try.infoFrame Try.underlying23 Try.underlying3 rfl (by omega) (.slice none 0 0) 0 [] rfl (World.ownsRow_nil _ _ _ _) n h0 rfl _ rfl hone (by unfold maxLen; omega) (by omega) (Nat.le_refl _) ?_; intro v1 w1 ho1 _ hb1 _; obtain ⟨g, cap, rfl, k1, k2, ho2⟩ := own_none_at ho1 (by omega); clear ho1; have HO2 := Lib.hid ho2; clear ho2))
  go_ret
  exact ⟨⟨_, rfl, HO2.out⟩, hb1⟩
theorem lagrow_any (n : Nat) (w : World) (hn : n ≤ 1000000) : Calls Try.prog 113 #[.slice none 0 0, .int .i64 n] w fun y w' => (∃ u, y = .returned u ∧ w'.ownsRow w.heap.size 37 9 u 0 []) ∧ Below w.heap.size w w' := by
  rcases Nat.eq_zero_or_pos n with h | h
  · subst h
    refine (lagrow_zero w).mono ?_
    rintro y w' ⟨rfl, hb⟩
    exact ⟨⟨_, rfl, World.ownsRow_nil _ _ _ _⟩, hb⟩
  · exact lagrow_more n w h hn

set_option maxRecDepth 100000 in
set_option maxHeartbeats 1000000 in
/-- slices.Concat of two slices of frames. -/
theorem laconcat_any (S : Nat → Prop) (g : Nat) (A1 A2 : Option Addr) (c1 c2 : Nat) (xs ys : List Fr) (w : World) (hS : ∀ b, S b → b < w.heap.size) (h1 : SliceOn Rep.frame false w S (.slice A1 xs.length c1) xs) (h2 : SliceOn Rep.frame false w S (.slice A2 ys.length c2) ys)
    (hrow : w.heap[g]? = some (.cells #[.slice A1 xs.length c1, .slice A2 ys.length c2] 23 (0, 0))) (hn : xs.length + ys.length ≤ 1000000) : Calls Try.prog 63 #[.slice (some ⟨g, 0, none⟩) 2 2] w
    fun y w' => (∃ u cells, y = .returned u ∧ w'.ownsRow w.heap.size 37 9 u (xs ++ ys).length cells ∧ Rep.frame.all false w' S cells (xs ++ ys)) ∧ Below w.heap.size w w' := by
  have b0 : w.cell? ⟨g, 0, none⟩ = some (.slice A1 xs.length c1) := blk_cell hrow 0
  have b1 : w.cell? ⟨g, 1, none⟩ = some (.slice A2 ys.length c2) := blk_cell hrow 1
  have hgl := lt_of_block hrow
  have q2 : wrap64 (xs.length : Int) = xs.length := by unfold wrap64; omega
  have q3 : wrap64 ((xs.length : Int) + (ys.length : Int)) = (xs.length : Int) + (ys.length : Int) := by unfold wrap64; omega
  have q1 : ¬ ((xs.length : Int) < 0) := by omega
  have q4 : ¬ ((xs.length : Int) + (ys.length : Int) < 0) := by omega
  have e1 : ((xs.length : Int) + (ys.length : Int)) = ((xs.length + ys.length : Nat) : Int) := by simp
  have HE := Lib.hid e1; clear e1
  go_enter Try.func63, Try.ntmps63
  go_wp2_with fail
  go_loopg [3, 11] 2 (fun k s i wr => (i = .int .i64 0 ∧ s = .int .i64 0 ∧ k = 2 ∨ i = .int .i64 1 ∧ s = .int .i64 (xs.length : Int) ∧ k = 1 ∨ i = .int .i64 2 ∧ s = .int .i64 ((xs.length : Int) + (ys.length : Int)) ∧ k = 0) ∧ wr = w)
  case atStart => exact ⟨.inl ⟨rfl, rfl, rfl⟩, rfl⟩
  case round =>
    obtain ⟨⟨rfl, rfl, rfl⟩ | ⟨rfl, rfl, rfl⟩ | ⟨rfl, rfl, rfl⟩, rfl⟩ := hrel
    · go_wp2_with fail
      go_roundg 1
      case rel => exact ⟨.inr (.inl ⟨rfl, rfl, rfl⟩), rfl⟩
      case measure => omega
    · go_wp2_with fail
      go_roundg 0
      case rel => exact ⟨.inr (.inr ⟨rfl, rfl, rfl⟩), rfl⟩
      case measure => omega
    · clear q1 q2 q3 q4 b0 b1
      obtain ⟨W, rfl⟩ : ∃ W : World, W = wr := ⟨_, rfl⟩
      rw [HE.out]
      go_wp2_with fail
      refine (lagrow_any (xs.length + ys.length) W hn).mono ?_
      rintro z w1 ⟨⟨u0, rfl, ho⟩, hb⟩
      have hrow1 := (hb.block g hgl).trans hrow
      have h1' := h1.keep (fun b q => hb.block b (hS b q))
      have h2' := h2.keep (fun b q => hb.block b (hS b q))
      clear h1 h2 hrow
      have hs1 := hb.size
      have HO := Lib.hid ho; clear ho
      go_wp2_with fail
      go_loopg [6, 27] 2 (fun k u i w2 => (i = .int .i64 0 ∧ u = u0 ∧ k = 2 ∧ w2 = w1 ∨ i = .int .i64 1 ∧ (∃ c1, w2.ownsRow W.heap.size 37 9 u xs.length c1 ∧ Rep.frame.all false w2 S c1 xs) ∧ k = 1 ∨ i = .int .i64 2 ∧ (∃ c1, w2.ownsRow W.heap.size 37 9 u (xs.length + ys.length) c1 ∧ Rep.frame.all false w2 S c1 (xs ++ ys)) ∧ k = 0) ∧ Below W.heap.size w1 w2)
      case atStart => exact ⟨.inl ⟨rfl, rfl, rfl, rfl⟩, Below.refl _ _⟩
      case round =>
        obtain ⟨⟨rfl, rfl, rfl, rfl⟩ | ⟨rfl, ⟨cs1, hx, hy⟩, rfl⟩ | ⟨rfl, ⟨cs1, hx, hy⟩, rfl⟩, hb2⟩ := hrel
        · have b0 := blk_cell hrow1 0
          replace b0 := b0.trans (show _ = some (Value.slice A1 xs.length c1) from rfl)
          have HS := Lib.hid h1'.arr
          go_wp2_with (at_builtin; refine wpList_appendOn (r := Rep.frame) rfl (.tmp 31) (.tmp 32) 23 rfl W.heap.size 37 Try.infoFrame Try.underlying23 rfl _ 0 [] rfl HO.out A1 c1 rfl HS.out (by unfold maxLen; omega) (by omega) hs1 ?_; intro v3 w3 news hn1 hown hg hb3 ha)
          go_roundg 1
          case rel => exact ⟨.inr (.inl ⟨rfl, ⟨news, by have q := hown; rw [List.nil_append, Nat.zero_add] at q; exact q, Rep.all_keep (fun b hb => hb3.block b (hS b hb)) hn1⟩, rfl⟩), hb2.trans hb3⟩
          case measure => omega
        · have hrow2 := (hb2.block g hgl).trans hrow1
          have b1 := blk_cell hrow2 1
          replace b1 := b1.trans (show _ = some (Value.slice A2 ys.length c2) from rfl)
          have HS := Lib.hid (h2'.keep (fun b q => hb2.block b (hS b q))).arr
          have hs2 := Nat.le_trans hs1 hb2.size
          have HX := Lib.hid hx; have HY := Lib.hid hy; clear hx hy hrow2
          go_wp2_with (at_builtin; refine wpList_appendOn (r := Rep.frame) rfl (.tmp 31) (.tmp 32) 23 rfl W.heap.size 37 Try.infoFrame Try.underlying23 rfl _ xs.length cs1 rfl HX.out A2 c2 rfl HS.out (by unfold maxLen; omega) (by omega) hs2 ?_; intro v3 w3 news hn1 hown hg hb3 ha)
          go_roundg 0
          case rel => exact ⟨.inr (.inr ⟨rfl, ⟨cs1 ++ news, hown, Rep.all_append (Rep.all_keep (fun b hb => hb3.block b (hS b hb)) HY.out) (Rep.all_keep (fun b hb => hb3.block b (hS b hb)) hn1)⟩, rfl⟩), hb2.trans hb3⟩
          case measure => omega
        · have HX := Lib.hid hx; have HY := Lib.hid hy; clear hx hy
          go_wp2_with fail
          go_ret
          exact ⟨⟨_, cs1, rfl, by rw [List.length_append]; exact HX.out, HY.out⟩, hb.trans (hb2.mono (Nat.le_refl _))⟩
end Go.Proofs.Ytkkbblpofhenpaa

/- The document's Push of lanes. -/
namespace Go.Proofs.Ytkkbblpofhenpaa
open Go.RowKit

theorem lazero_on {w : World} {S : Nat → Prop} : LaOn w S (.agg #[.bool false, .int .i64 0, .slice none 0 0]) La.zero := ⟨none, 0, rfl, SliceOn.none_⟩
theorem lafin {w w' : World} {S : Nat → Prop} {B : Nat} {b : Option Nat} {A : Option Addr} {n c : Nat} {a : La} (hs : SliceOn Rep.frame false w (fun k => S k ∨ b = some k) (.slice A n c) a.l) (hk : ∀ k, (S k ∨ b = some k) → w'.heap[k]? = w.heap[k]?) (hlt : ∀ k, (S k ∨ b = some k) → k < w'.heap.size ∧ (S k ∨ B ≤ k)) : LaOn w' (also S B w'.heap.size) (.agg #[.bool a.fifo, .int .i64 a.cap, .slice A n c]) a := by
  obtain ⟨A2, c2, he, _⟩ := id hs
  injection he with h1 h2 h3
  subst h2
  exact ⟨_, _, rfl, (hs.keep hk).widen fun k q => (hlt k q).2.imp id fun z => ⟨z, (hlt k q).1⟩⟩
theorem three_other {w : World} {g k : Nat} {x y z : Value} (h : k ≠ g) : (((w.setCell ⟨g, 0, none⟩ x).setCell ⟨g, 1, none⟩ y).setCell ⟨g, 2, none⟩ z).heap[k]? = w.heap[k]? :=
  ((heap_setCell_other _ _ _ _ h).trans (heap_setCell_other _ _ _ _ h)).trans (heap_setCell_other _ _ _ _ h)
theorem three_size {w : World} {g : Nat} {x y z : Value} : (((w.setCell ⟨g, 0, none⟩ x).setCell ⟨g, 1, none⟩ y).setCell ⟨g, 2, none⟩ z).heap.size = w.heap.size := by simp [World.setCell]
set_option maxRecDepth 100000 in
set_option maxHeartbeats 1000000 in
theorem rapush_right (v vf : Value) (a : La) (f : Fr) (w : World) (S : Nat → Prop) (hS : ∀ b, S b → b < w.heap.size) (h : LaOn w S v a) (hf : FrOn false w S vf f) (hn : a.l.length < 1000000) (HR : Hid (Fr.right f = true)) : Calls Try.prog 20 #[v, vf] w
    fun y w' => (∃ u, y = .returned (.tuple #[u, .int .i64 (La.pushE a f)]) ∧ LaOn w' (also S w.heap.size w'.heap.size) u (La.push a f)) ∧ Below w.heap.size w w' := by
  obtain ⟨A, c, rfl, h1⟩ := h
  obtain ⟨pA, pB, pk, pl, he, _, _⟩ := id hf
  subst he
  have hl := (h1.all_ hS).len_le
  have hfi := hf.is_ hS
  have HSS := Lib.hid hS; clear hS
  go_enter Try.func20, Try.ntmps20
  go_upto_region 1 with fail
  refine name_wp fun W0 hW0 => ?_
  have bx : Box W0 w.heap.size #[.bool a.fifo, .int .i64 a.cap, .slice A a.l.length c] 28 := hW0 ▸ ((Box.at' _ _ rfl).alloc _).alloc _
  have bf : Box W0 (w.heap.size + 1) #[.int .i64 f.kind, .int .i64 f.epoch, .int .i64 f.seq, .int .i64 f.letter, .slice pA f.pieces.length pk, .int .i64 f.init, .int .i64 f.num, .int .i64 f.count, .slice pB f.path.length pl] 48 := hW0 ▸ (Box.at' _ _ (by simp)).alloc _
  have b4 : Box W0 (w.heap.size + 1 + 1) #[.bool false, .int .i64 0, .slice none 0 0] 28 := hW0 ▸ Box.at' _ _ (by simp)
  have hB : Below w.heap.size w W0 := hW0 ▸ (((Below.refl _ _).alloc (Nat.le_refl _) _).alloc (by simp) _).alloc (by simp; omega) _
  clear hW0
  have hp := hfi.next hB
  clear hfi
  obtain ⟨c0, c1, c2, c3, c4, c5, c6, c7, c8⟩ := nine_cells bf
  have hbl := bf.lt; have hzl := b4.lt
  go_wp2_with fail
  clear c0 c1 c2 c3 c4 c5 c6 c7 c8
  refine (crright hp HR.out).mono ?_
  rintro z w1 ⟨rfl, hb⟩
  clear hbl hzl hp
  replace bx := bx.next hb; replace bf := bf.next hb; replace b4 := b4.next hb
  have hs := (h1.keep (fun b q => hB.block b (HSS.out b q))).keep (fun b q => (hb.mono hB.size).block b (HSS.out b q))
  replace hB := hB.trans (hb.mono hB.size)
  clear hb h1
  have h4l := b4.lt
  have HB := Lib.hid hB; clear hB
  have HF := Lib.hid hf; clear hf
  obtain ⟨d0, d1, d2⟩ := three_cells bx
  have hbl := bx.lt
  go_upto_region 3 with fail
  clear d0 d1 d2
  go_cut [6] (fun u wx => Outs 48 28 w1 S a.fifo a.cap a.l u wx)
  case first =>
    have hhi : ∀ b, S b → b < w1.heap.size := fun b q => Nat.lt_of_lt_of_le (HSS.out b q) (by omega)
    have HHI := Lib.hid hhi; clear hhi
    have hV := (Below.refl w1.heap.size w1).drew
    have hsd := hs.keep (fun b q => hV.block b (HHI.out b q))
    have bxd := bx.next hV
    refine region_go 128 (by kernel_rfl) ?_
    obtain ⟨d0, d1, d2⟩ := three_cells bxd
    refine wpAny_go 128 0 [5, 6] 96 9 (by kernel_rfl) (by kernel_rfl) (fun _ _ _ _ _ h => h) (by kernel_rfl) (by rfl) (by rfl) (by kernel_rfl) ?_
    simp only [List.map_cons, List.map_nil, List.getD_cons_succ, List.getD_cons_zero]
    go_wp2_with fail
    change wpAnyM _ _ _ _ _ _ _ _ _ _
    refine wpAny_reads 128 96 [0, 1, 2, 3] 111 5 (by kernel_rfl) (by kernel_rfl) (fun _ _ _ _ _ h => h) (by kernel_rfl) (by rfl) (by rfl) (by kernel_rfl) ?_
    simp only [List.map_cons, List.map_nil, List.getD_cons_succ, List.getD_cons_zero]
    go_wp2_with fail
    change _ → wpAnyM _ _ _ _ _ _ _ _ _ _; intro _
    clear d0 d1 d2
    clear bxd
    refine name_any fun y0 hy => ?_
    have s0 : w1.heap.size ≤ y0.heap.size := by rw [← hy]; simp
    rw [hy] at hsd hV
    clear hy
    refine wpAny_twoM 4 9 127 623 (by kernel_rfl) (by kernel_rfl) (of_decide_eq_true (by kernel_rfl)) (of_decide_eq_true (by kernel_rfl)) (by rfl) (by rfl) ?_ ?_
    ·
      simp only [List.getD_cons_succ, List.getD_cons_zero]
      go_wp2_with fail
      refine ⟨fun h => absurd h (by decide), name_any fun y1 hw => ?_⟩
      have hr : RowH Rep.frame 48 S w1.heap.size y1 (some y0.heap.size) (.slice (some ⟨y0.heap.size, 0, none⟩) 0 0) [] := (hw ▸ RowH.empty _ _ _ _ : RowH Rep.frame 48 S y0.heap.size y1 _ _ _).base s0
      have hh : Below y0.heap.size y0 y1 := hw ▸ (Below.refl _ _).alloc (Nat.le_refl _) _
      have z1 : y0.heap.size < y1.heap.size := hw ▸ (by simp)
      clear hw
      replace hsd := hsd.keep (fun b q => hh.block b (Nat.lt_of_lt_of_le (HHI.out b q) s0))
      replace hV := hV.trans (hh.mono s0)
      have s1 := Nat.le_trans s0 hh.size
      clear hh
      refine wpAny_twoM 7 9 255 639 (by kernel_rfl) (by kernel_rfl) (of_decide_eq_true (by kernel_rfl)) (of_decide_eq_true (by kernel_rfl)) (by rfl) (by rfl) ?_ ?_
      ·
        simp only [List.getD_cons_succ, List.getD_cons_zero]
        refine wpList_rowHS (r := Rep.frame) rfl (.tmp 15) (.tmp 17) 26 rfl w1.heap.size 48 Try.infoRFrame Try.underlying26 rfl (by omega) _ _ rfl hr HHI.out s1 rfl (hsd) (by simp only [List.length_nil]; omega) ?_
        intro v y2 nb hr2 hgr hh hap
        rw [List.nil_append] at hr2
        clear hr
        have hr := hr2; clear hr2
        obtain ⟨VA, vc, rfl⟩ := hr.form
        clear hgr hap
        replace hsd := hsd.keep (fun b q => hh.block b (HHI.out b q))
        replace hV := hV.trans hh
        have s2 := Nat.le_trans s1 hh.size
        clear hh
        go_wp2_with fail
        refine ⟨fun _ => Ext.below (below_drewL hV) (Nat.le_refl _), ?_⟩
        refine wpAny_go 128 255 [8] 511 2 (by kernel_rfl) (by kernel_rfl) (fun _ _ _ _ _ h => h) (by kernel_rfl) (by rfl) (by rfl) (by kernel_rfl) ?_
        simp only [List.map_cons, List.map_nil, List.getD_cons_succ, List.getD_cons_zero]
        go_wp2_with fail
        change wpAnyM _ _ _ _ _ _ _ _ _ _
        refine wpAny_oneM 9 1023 (by kernel_rfl) (by kernel_rfl) (of_decide_eq_true (by kernel_rfl)) (by rfl) ?_
        simp only [List.getD_cons_succ, List.getD_cons_zero]
        have hne : nb ≠ some y2.heap.size := fun e => absurd (hr.lt e).2 (Nat.lt_irrefl _)
        go_wp2_with fail
        refine ⟨fun h => absurd h (by decide), name_any fun y3 hw => ?_⟩
        have hg : Box y3 y2.heap.size #[.bool false, .int .i64 0, .slice none 0 0] 28 := hw ▸ Box.new _ _ _
        have hh : Below y2.heap.size y2 y3 := hw ▸ (Below.refl _ _).alloc (Nat.le_refl _) _
        have z3 : y2.heap.size < y3.heap.size := hw ▸ (by simp)
        clear hw
        replace hr := hr.next hh (fun b q => Nat.lt_of_lt_of_le (HHI.out b q) s2)
        replace hsd := hsd.keep (fun b q => hh.block b (Nat.lt_of_lt_of_le (HHI.out b q) s2))
        replace hV := hV.trans (hh.mono s2)
        have s3 := Nat.le_trans s2 hh.size
        clear hh
        obtain ⟨d0, d1, d2⟩ := three_cells hg
        have df0 := three_free hg 0
        have df1 := three_free hg 1
        have df2 := three_free hg 2
        have hgl := hg.lt
        refine wpAny_go 128 1023 [10] 2047 0 (by kernel_rfl) (by kernel_rfl) (fun _ _ _ _ _ h => h) (by kernel_rfl) (by rfl) (by rfl) (by kernel_rfl) ?_
        simp only [List.map_cons, List.map_nil, List.getD_cons_succ, List.getD_cons_zero]
        go_wp2_with fail
        change wpAnyM _ _ _ _ _ _ _ _ _ _
        clear d0 d1 d2
        clear df0 df1 df2
        refine wpAny_endM (by kernel_rfl) (by kernel_rfl) ?_
        go_wp2_with fail
        go_meet
        exact Outs.mk_ hg hr s2 hne HHI.out hV
      ·
        simp only [List.getD_cons_succ, List.getD_cons_zero]
        go_wp2_with fail
        refine ⟨fun h => absurd h (by decide), name_any fun y2 hw => ?_⟩
        have hg : Box y2 y1.heap.size #[.bool false, .int .i64 0, .slice none 0 0] 28 := hw ▸ Box.new _ _ _
        have hh : Below y1.heap.size y1 y2 := hw ▸ (Below.refl _ _).alloc (Nat.le_refl _) _
        have z2 : y1.heap.size < y2.heap.size := hw ▸ (by simp)
        clear hw
        replace hr := hr.next hh (fun b q => Nat.lt_of_lt_of_le (HHI.out b q) s1)
        replace hsd := hsd.keep (fun b q => hh.block b (Nat.lt_of_lt_of_le (HHI.out b q) s1))
        replace hV := hV.trans (hh.mono s1)
        have s2 := Nat.le_trans s1 hh.size
        clear hh
        refine wpAny_oneM 7 767 (by kernel_rfl) (by kernel_rfl) (of_decide_eq_true (by kernel_rfl)) (by rfl) ?_
        simp only [List.getD_cons_succ, List.getD_cons_zero]
        refine wpList_rowHS (r := Rep.frame) rfl (.tmp 15) (.tmp 17) 26 rfl w1.heap.size 48 Try.infoRFrame Try.underlying26 rfl (by omega) _ _ rfl hr HHI.out s2 rfl (hsd) (by simp only [List.length_nil]; omega) ?_
        intro v y3 nb hr2 hgr hh hap
        rw [List.nil_append] at hr2
        clear hr
        have hr := hr2; clear hr2
        obtain ⟨VA, vc, rfl⟩ := hr.form
        have hne : nb ≠ some y1.heap.size := by
          have q := hg.lt
          rcases hap with rfl | ⟨q2, rfl, hq⟩
          · intro e; injection e; omega
          · intro e; injection e; omega
        replace hg : Box y3 y1.heap.size #[.bool false, .int .i64 0, .slice none 0 0] 28 := (hgr.block _ hg.lt (by intro e; injection e; omega)).trans hg
        clear hgr hap
        replace hsd := hsd.keep (fun b q => hh.block b (HHI.out b q))
        replace hV := hV.trans hh
        have s3 := Nat.le_trans s2 hh.size
        clear hh
        go_wp2_with fail
        refine ⟨fun _ => Ext.below (below_drewL hV) (Nat.le_refl _), ?_⟩
        obtain ⟨d0, d1, d2⟩ := three_cells hg
        have df0 := three_free hg 0
        have df1 := three_free hg 1
        have df2 := three_free hg 2
        have hgl := hg.lt
        refine wpAny_go 128 767 [8, 10] 2047 0 (by kernel_rfl) (by kernel_rfl) (fun _ _ _ _ _ h => h) (by kernel_rfl) (by rfl) (by rfl) (by kernel_rfl) ?_
        simp only [List.map_cons, List.map_nil, List.getD_cons_succ, List.getD_cons_zero]
        go_wp2_with fail
        change wpAnyM _ _ _ _ _ _ _ _ _ _
        clear d0 d1 d2
        clear df0 df1 df2
        refine wpAny_endM (by kernel_rfl) (by kernel_rfl) ?_
        go_wp2_with fail
        go_meet
        exact Outs.mk_ hg hr s1 hne HHI.out hV
    ·
      simp only [List.getD_cons_succ, List.getD_cons_zero]
      go_wp2_with fail
      refine ⟨fun h => absurd h (by decide), name_any fun y1 hw => ?_⟩
      have hg : Box y1 y0.heap.size #[.bool false, .int .i64 0, .slice none 0 0] 28 := hw ▸ Box.new _ _ _
      have hh : Below y0.heap.size y0 y1 := hw ▸ (Below.refl _ _).alloc (Nat.le_refl _) _
      have z1 : y0.heap.size < y1.heap.size := hw ▸ (by simp)
      clear hw
      replace hsd := hsd.keep (fun b q => hh.block b (Nat.lt_of_lt_of_le (HHI.out b q) s0))
      replace hV := hV.trans (hh.mono s0)
      have s1 := Nat.le_trans s0 hh.size
      clear hh
      refine wpAny_oneM 4 639 (by kernel_rfl) (by kernel_rfl) (of_decide_eq_true (by kernel_rfl)) (by rfl) ?_
      simp only [List.getD_cons_succ, List.getD_cons_zero]
      go_wp2_with fail
      refine ⟨fun h => absurd h (by decide), name_any fun y2 hw => ?_⟩
      have hr : RowH Rep.frame 48 S w1.heap.size y2 (some y1.heap.size) (.slice (some ⟨y1.heap.size, 0, none⟩) 0 0) [] := (hw ▸ RowH.empty _ _ _ _ : RowH Rep.frame 48 S y1.heap.size y2 _ _ _).base s1
      have hh : Below y1.heap.size y1 y2 := hw ▸ (Below.refl _ _).alloc (Nat.le_refl _) _
      have z2 : y1.heap.size < y2.heap.size := hw ▸ (by simp)
      clear hw
      replace hg := hg.next hh
      replace hsd := hsd.keep (fun b q => hh.block b (Nat.lt_of_lt_of_le (HHI.out b q) s1))
      replace hV := hV.trans (hh.mono s1)
      have s2 := Nat.le_trans s1 hh.size
      clear hh
      refine wpAny_oneM 7 767 (by kernel_rfl) (by kernel_rfl) (of_decide_eq_true (by kernel_rfl)) (by rfl) ?_
      simp only [List.getD_cons_succ, List.getD_cons_zero]
      refine wpList_rowHS (r := Rep.frame) rfl (.tmp 15) (.tmp 17) 26 rfl w1.heap.size 48 Try.infoRFrame Try.underlying26 rfl (by omega) _ _ rfl hr HHI.out s2 rfl (hsd) (by simp only [List.length_nil]; omega) ?_
      intro v y3 nb hr2 hgr hh hap
      rw [List.nil_append] at hr2
      clear hr
      have hr := hr2; clear hr2
      obtain ⟨VA, vc, rfl⟩ := hr.form
      have hne : nb ≠ some y0.heap.size := by
        have q := hg.lt
        rcases hap with rfl | ⟨q2, rfl, hq⟩
        · intro e; injection e; omega
        · intro e; injection e; omega
      replace hg : Box y3 y0.heap.size #[.bool false, .int .i64 0, .slice none 0 0] 28 := (hgr.block _ hg.lt (by intro e; injection e; omega)).trans hg
      clear hgr hap
      replace hsd := hsd.keep (fun b q => hh.block b (HHI.out b q))
      replace hV := hV.trans hh
      have s3 := Nat.le_trans s2 hh.size
      clear hh
      go_wp2_with fail
      refine ⟨fun _ => Ext.below (below_drewL hV) (Nat.le_refl _), ?_⟩
      obtain ⟨d0, d1, d2⟩ := three_cells hg
      have df0 := three_free hg 0
      have df1 := three_free hg 1
      have df2 := three_free hg 2
      have hgl := hg.lt
      refine wpAny_go 128 767 [8, 10] 2047 0 (by kernel_rfl) (by kernel_rfl) (fun _ _ _ _ _ h => h) (by kernel_rfl) (by rfl) (by rfl) (by kernel_rfl) ?_
      simp only [List.map_cons, List.map_nil, List.getD_cons_succ, List.getD_cons_zero]
      go_wp2_with fail
      change wpAnyM _ _ _ _ _ _ _ _ _ _
      clear d0 d1 d2
      clear df0 df1 df2
      refine wpAny_endM (by kernel_rfl) (by kernel_rfl) ?_
      go_wp2_with fail
      go_meet
      exact Outs.mk_ hg hr s0 hne HHI.out hV
  case rest =>
    obtain ⟨ob, b, v1, rfl, bo, hr, hne, hob, hV⟩ := hcut
    obtain ⟨W2, rfl⟩ : ∃ x : World, x = wc := ⟨_, rfl⟩
    obtain ⟨VA, vc, rfl⟩ := hr.form
    replace bf := bf.next hV; replace b4 := b4.next hV; replace bx := bx.next hV
    clear hs
    have hcs : Rep.frame.is false W2 S [.int .i64 f.kind, .int .i64 f.epoch, .int .i64 f.seq, .int .i64 f.letter, .slice pA f.pieces.length pk, .int .i64 f.init, .int .i64 f.num, .int .i64 f.count, .slice pB f.path.length pl] f := (HF.out.keep (fun b hb => ((hV.mono HB.out.size).block b (HSS.out b hb)).trans (HB.out.block b (HSS.out b hb)))).rep
    have HCS := Lib.hid hcs; clear hcs
    have hhi : ∀ b, S b → b < w1.heap.size := fun b q => Nat.lt_of_lt_of_le (HSS.out b q) HB.out.size
    have HHI := Lib.hid hhi; clear hhi
    have HR2 := Lib.hid hr; have HNE := Lib.hid hne; have HV := Lib.hid hV; clear hr hne hV
    obtain ⟨d0, d1, d2⟩ := three_cells bo
    obtain ⟨c0, c1, c2, c3, c4, c5, c6, c7, c8⟩ := nine_cells bf
    have hbl2 := bo.lt; have hfl2 := bf.lt
    go_upto_region 5 with (at_builtin; refine wpList_rowHB (r := Rep.frame) (y := f) rfl (.tmp 21) (.tmp 23) 26 rfl w1.heap.size 48 Try.infoRFrame Try.underlying26 rfl (by omega) _ rfl HR2.out HHI.out HV.out.size 1 _ _ rfl rfl HCS.out (by omega) ?_; intro v3 w3 nb hr3 hgr hh hap; obtain ⟨NA, nc, rfl⟩ := hr3.form; have bo3 := (hgr.block ob bo.lt (fun e => HNE.out e.symm)).trans bo; have df0 := three_free bo3 0; have df1 := three_free bo3 1; have df2 := three_free bo3 2; clear d0 d1 d2; obtain ⟨d0, d1, d2⟩ := three_cells bo3; have hol3 := lt_of_block bo3)
    clear c0 c1 c2 c3 c4 c5 c6 c7 c8
    clear df0 df1 df2 d0 d1 d2
    refine name_wp fun W4 hW4 => ?_
    have bo4 : Box W4 ob #[.bool a.fifo, .int .i64 a.cap, .slice NA (a.l.length + 1) nc] 28 := by rw [← hW4]; exact blk_set bo3 2 _
    have hk4 : ∀ k, k ≠ ob → W4.heap[k]? = w3.heap[k]? := fun k hk => by rw [← hW4]; exact heap_setCell_other _ _ _ _ hk
    have hz4 : W4.heap.size = w3.heap.size := by rw [← hW4]; simp [World.setCell]
    have hB4 : Below w1.heap.size w1 W4 := by rw [← hW4]; exact (HV.out.trans hh).setCell hob _
    clear hW4
    have hol2 := bo.lt
    have hnb : nb ≠ some ob := by
      rcases hap with rfl | ⟨q, rfl, hq⟩
      · exact HNE.out
      · intro e; injection e; omega
    have hr4 : RowH Rep.frame 48 S w1.heap.size W4 nb (.slice NA (a.l ++ [f]).length nc) (a.l ++ [f]) := hr3.keep fun k hk => hk4 k (hk.elim (fun q e => hnb (q.trans (congrArg some e))) (fun q e => by have := HHI.out k q; omega))
    have hsl := hr4.on
    have hnk : ∀ k, (S k ∨ nb = some k) → k ≠ w.heap.size + 1 + 1 ∧ k < W4.heap.size ∧ (S k ∨ w.heap.size ≤ k) := fun k hk => by
      have q1 := hB4.size; have q2 := HB.out.size
      rcases hk with hk | hk
      · have := HSS.out k hk; exact ⟨by omega, by omega, .inl hk⟩
      · have q3 := hr4.lt hk; exact ⟨by omega, by omega, .inr (by omega)⟩
    have hs4 := hr4.slice (fun b q => Nat.lt_of_lt_of_le (HHI.out b q) hB4.size)
    have hn4 : (a.l ++ [f]).length = a.l.length + 1 := by simp
    have b44 : Box W4 (w.heap.size + 1 + 1) #[.bool false, .int .i64 0, .slice none 0 0] 28 := (hk4 _ (by omega)).trans ((hh.block _ h4l).trans b4)
    have hla : LaIs false W4 0 W4.heap.size (.agg #[.bool a.fifo, .int .i64 a.cap, .slice NA (a.l ++ [f]).length nc]) (La.more a f) := ⟨NA, nc, rfl, hs4⟩
    have hright := raright_any _ (La.more a f) W4 hla
    rw [hn4] at hright hs4 hla hsl
    have HSL := Lib.hid hsl; have HNK := Lib.hid hnk; clear hsl hnk
    obtain ⟨q, hq⟩ : ∃ q, La.right (La.more a f) = q := ⟨_, rfl⟩
    rw [hq] at hright
    have HQ := Lib.hid hq; have HRT := Lib.hid hright; have HB4 := Lib.hid hB4; have HLA := Lib.hid hla; clear hq hright hB4 hla hs4 hr4 hnb hz4 hk4 hgr hh hap hr3 bo3 bo b4 bf bx hol3
    obtain ⟨g0, g1, g2⟩ := three_cells bo4
    obtain ⟨z0, z1, z2⟩ := three_cells b44
    have hgl4 := bo4.lt; have hzl4 := b44.lt
    go_wp2_with fail
    refine HRT.out.mono ?_
    rintro z w5 ⟨rfl, hb⟩
    clear g0 g1 g2 z0 z1 z2
    have HK5 := Lib.hid hb.block; have HS5 := Lib.hid hb.size; clear HLA
    replace bo4 := bo4.next hb; replace b44 := b44.next hb
    obtain ⟨g0, g1, g2⟩ := three_cells bo4
    obtain ⟨z0, z1, z2⟩ := three_cells b44
    have zf0 := three_free b44 0
    have zf1 := three_free b44 1
    have zf2 := three_free b44 2
    have hgl5 := bo4.lt; have hzl5 := b44.lt
    have HB5 := Lib.hid ((HB.out.trans (HB4.out.mono HB.out.size)).trans (hb.mono (Nat.le_trans HB.out.size HB4.out.size))); clear hb
    cases q with
    | false =>
      go_wp2_with fail
      refine bodyPost_ret (v := .tuple #[.agg #[.bool false, .int .i64 0, .slice none 0 0], .int .i64 6]) (by simp [results, Try.results20, go_sem, z0, z1, z2]) rfl ?_
      exact ⟨⟨_, by rw [La.pushE, if_pos HR.out, HQ.out]; rfl, by rw [La.push, HR.out, HQ.out]; exact lazero_on⟩, ((HB5.out.setCell (by simp; omega) _).setCell (by simp; omega) _).setCell (by simp; omega) _⟩
    | true =>
      go_wp2_with fail
      refine bodyPost_ret (v := .tuple #[.agg #[.bool a.fifo, .int .i64 a.cap, .slice NA (a.l.length + 1) nc], .int .i64 0]) (by simp [results, Try.results20, go_sem, z0, z1, z2]) rfl ?_
      exact ⟨⟨_, by rw [La.pushE, if_pos HR.out, HQ.out]; rfl, by rw [La.push, HR.out, HQ.out]; exact lafin (a := La.more a f) HSL.out (fun k hk => (three_other (HNK.out k hk).1).trans (HK5.out k (HNK.out k hk).2.1)) (fun k hk => ⟨by rw [three_size]; exact Nat.lt_of_lt_of_le (HNK.out k hk).2.1 HS5.out, (HNK.out k hk).2.2⟩)⟩, (((HB5.out.setCell (by simp; omega) _).setCell (by simp; omega) _).setCell (by simp; omega) _)⟩
set_option maxRecDepth 100000 in
set_option maxHeartbeats 1000000 in
theorem rapush_wrong (v vf : Value) (a : La) (f : Fr) (w : World) (S : Nat → Prop) (hS : ∀ b, S b → b < w.heap.size) (h : LaOn w S v a) (hf : FrOn false w S vf f) (HR : Hid (Fr.right f = false)) : Calls Try.prog 20 #[v, vf] w
    fun y w' => (∃ u, y = .returned (.tuple #[u, .int .i64 (La.pushE a f)]) ∧ LaOn w' (also S w.heap.size w'.heap.size) u (La.push a f)) ∧ Below w.heap.size w w' := by
  obtain ⟨A, c, rfl, h1⟩ := h
  obtain ⟨pA, pB, pk, pl, he, _, _⟩ := id hf
  subst he
  have hl := (h1.all_ hS).len_le
  have hfi := hf.is_ hS
  have HSS := Lib.hid hS; clear hS
  go_enter Try.func20, Try.ntmps20
  go_upto_region 1 with fail
  refine name_wp fun W0 hW0 => ?_
  have bx : Box W0 w.heap.size #[.bool a.fifo, .int .i64 a.cap, .slice A a.l.length c] 28 := hW0 ▸ ((Box.at' _ _ rfl).alloc _).alloc _
  have bf : Box W0 (w.heap.size + 1) #[.int .i64 f.kind, .int .i64 f.epoch, .int .i64 f.seq, .int .i64 f.letter, .slice pA f.pieces.length pk, .int .i64 f.init, .int .i64 f.num, .int .i64 f.count, .slice pB f.path.length pl] 48 := hW0 ▸ (Box.at' _ _ (by simp)).alloc _
  have b4 : Box W0 (w.heap.size + 1 + 1) #[.bool false, .int .i64 0, .slice none 0 0] 28 := hW0 ▸ Box.at' _ _ (by simp)
  have hB : Below w.heap.size w W0 := hW0 ▸ (((Below.refl _ _).alloc (Nat.le_refl _) _).alloc (by simp) _).alloc (by simp; omega) _
  clear hW0
  have hp := hfi.next hB
  clear hfi
  obtain ⟨c0, c1, c2, c3, c4, c5, c6, c7, c8⟩ := nine_cells bf
  have hbl := bf.lt; have hzl := b4.lt
  go_wp2_with fail
  clear c0 c1 c2 c3 c4 c5 c6 c7 c8
  refine (crright hp HR.out).mono ?_
  rintro z w1 ⟨rfl, hb⟩
  clear hbl hzl hp
  replace b4 := b4.next hb
  obtain ⟨z0, z1, z2⟩ := three_cells b4
  have zf0 := three_free b4 0
  have zf1 := three_free b4 1
  have zf2 := three_free b4 2
  have hz4 := b4.lt
  have hB1 := hB.trans (hb.mono hB.size)
  go_wp2_with fail
  refine bodyPost_ret (v := .tuple #[.agg #[.bool false, .int .i64 0, .slice none 0 0], .int .i64 4]) (by simp [results, Try.results20, go_sem, z0, z1, z2]) rfl ?_
  exact ⟨⟨_, by rw [La.pushE, HR.out]; rfl, by rw [La.push, HR.out]; exact lazero_on⟩, ((hB1.setCell (by simp; omega) _).setCell (by simp; omega) _).setCell (by simp; omega) _⟩
/-- The document's Push. -/
theorem rapush_any (v vf : Value) (a : La) (f : Fr) (w : World) (S : Nat → Prop) (hS : ∀ b, S b → b < w.heap.size) (h : LaOn w S v a) (hf : FrOn false w S vf f) (hn : a.l.length < 1000000) : Calls Try.prog 20 #[v, vf] w
    fun y w' => (∃ u, y = .returned (.tuple #[u, .int .i64 (La.pushE a f)]) ∧ LaOn w' (also S w.heap.size w'.heap.size) u (La.push a f)) ∧ Below w.heap.size w w' := by
  cases hr : Fr.right f with
  | true => exact rapush_right v vf a f w S hS h hf hn (Lib.hid hr)
  | false => exact rapush_wrong v vf a f w S hS h hf (Lib.hid hr)
end Go.Proofs.Ytkkbblpofhenpaa

/- A part of a drawn region in which several operations may come up in any order: each of them is walked once, over an invariant. Nothing of the program. -/
namespace Go.Proofs.Ytkkbblpofhenpaa
section
variable {P : Program} {Q : Exit → Act → World → Prop} {md : Region.Mode}

/-- From a mask on just those of S come up, k in all, in whatever order; then the mask is mEnd. -/
def blockOK (ems : List Nat) (S : List Nat) (mEnd : Nat) : Nat → Nat → Bool
  | 0, m => m == mEnd
  | k + 1, m => (fun rs => !rs.isEmpty && rs.all fun j => S.contains j && blockOK ems S mEnd k (m ||| 2 ^ j)) (readyM m ems 0)

theorem mem_readyM (mask : Nat) : ∀ (ems : List Nat) (j i : Nat), i ∈ readyM mask ems j → ∃ k em, i = j + k ∧ ems[k]? = some em ∧ mask.testBit i = false ∧ em &&& mask = em := by
  intro ems
  induction ems with
  | nil => intro j i h; simp [readyM] at h
  | cons em t ih =>
    intro j i h
    have step : i ∈ readyM mask t (j + 1) → ∃ k em', i = j + k ∧ (em :: t)[k]? = some em' ∧ mask.testBit i = false ∧ em' &&& mask = em' := by
      intro h
      obtain ⟨k, em', rfl, h2, h3, h4⟩ := ih (j + 1) i h
      exact ⟨k + 1, em', by omega, by simpa using h2, h3, h4⟩
    unfold readyM at h
    split at h
    · rename_i hc
      rcases List.mem_cons.1 h with rfl | h
      · simp only [Bool.and_eq_true, Bool.not_eq_true', beq_iff_eq] at hc
        exact ⟨0, em, rfl, rfl, hc.1, hc.2⟩
      · exact step h
    · exact step h

/-- Each of S, walked once. -/
def blockSteps (P : Program) (md : Region.Mode) (M : Nat) (wM : World) (l : List Oper) (Inv : Nat → Act → World → Prop) : List Nat → Prop
  | [] => True
  | j :: t => (∀ m a w, (l.map (edgeMask md)).getD j 0 &&& m = (l.map (edgeMask md)).getD j 0 → Inv m a w →
      wpList P l.toArray (stepQ fun a w => (M.testBit j = true → Ext wM w) ∧ Inv (m ||| 2 ^ j) a w) [l.getD j default] a w) ∧ blockSteps P md M wM l Inv t
theorem blockSteps.get {M : Nat} {wM : World} {l : List Oper} {Inv : Nat → Act → World → Prop} : ∀ {S : List Nat}, blockSteps P md M wM l Inv S → ∀ j ∈ S, ∀ m a w, (l.map (edgeMask md)).getD j 0 &&& m = (l.map (edgeMask md)).getD j 0 → Inv m a w →
      wpList P l.toArray (stepQ fun a w => (M.testBit j = true → Ext wM w) ∧ Inv (m ||| 2 ^ j) a w) [l.getD j default] a w := by
  intro S
  induction S with
  | nil => intro _ j hj; cases hj
  | cons i t ih =>
    intro h j hj
    rcases List.mem_cons.1 hj with rfl | hj
    · exact h.1
    · exact ih h.2 j hj

theorem name_act {M : Nat} {wM : World} {ops : Array Oper} {fuel : Nat} {li : Array Bool} {a : Act} {w : World} (h : ∀ A, a = A → wpAnyM P md ops Q M wM fuel li A w) : wpAnyM P md ops Q M wM fuel li a w := h a rfl
/-- What is known once operation i has come up. -/
def Held (m i : Nat) (φ : Prop) : Prop := m.testBit i = true → φ
variable {m i j : Nat} {φ ψ : Prop}
theorem Held.other (h : Held m i φ) (hne : i ≠ j) (hs : φ → ψ) : Held (m ||| 2 ^ j) i ψ := by
  intro hb
  rw [Nat.testBit_or, Nat.testBit_two_pow, Bool.or_eq_true, decide_eq_true_eq] at hb
  rcases hb with hb | hb
  · exact hs (h hb)
  · exact absurd hb.symm hne
theorem Held.now (h : φ) : Held m i φ := fun _ => h
theorem Held.imp (h : Held m i φ) (hs : φ → ψ) : Held m i ψ := fun hb => hs (h hb)
theorem Held.none (h : m.testBit i = false) : Held m i φ := fun hb => by rw [h] at hb; cases hb
theorem Held.get (h : Held m i φ) {E : Nat} (hd : E &&& m = E) (hE : E.testBit i = true) : φ := by
  apply h
  rw [← hd, Nat.testBit_and, Bool.and_eq_true] at hE
  exact hE.2
theorem Held.done (h : Held m i φ) (hm : m.testBit i = true) : φ := h hm
end
end Go.Proofs.Ytkkbblpofhenpaa
