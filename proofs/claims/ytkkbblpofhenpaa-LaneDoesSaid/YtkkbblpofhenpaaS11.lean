/- Lemmas, walks and contracts that the statements of this seat are proved by. -/
import Derived.Test.YtkkbblpofhenpaaS10
import Derived.Laws.MakeOwn
import Derived.Laws.CopyOwn
/- make([]T, n), copy and a store behind, for elements of any size. Nothing of the program. -/
namespace Go.Proofs.Ytkkbblpofhenpaa
open Go.RowKit

theorem run_copy_rowS {P : Program} (w : World) (dT sT ty elem : TypeId) (size : Nat) (g o dLen dCap : Nat) (a : Addr) (sLen sCap : Nat) (cur : Array Value) (t : TypeId) (cs : List Value)
    (hu : P.underlying dT = some (.slice elem)) (hs : (P.info? elem).map (·.size) = some size)
    (hg : w.heap[g]? = some (.cells cur t (0, 0))) (hn : cs.length = Nat.min sLen dLen * size)
    (hsrc : ∀ j v, cs[j]? = some v → w.cell? (a.add j) = some v) (hfit : o + cs.length ≤ cur.size) (h1 : ∀ v ∈ cs, v.oneCell' = true) :
    (Builtin.copy_ #[dT, sT] ty #[.slice (some ⟨g, o, none⟩) dLen dCap, .slice (some a) sLen sCap]).run P w =
      .ok (goInt (Nat.min sLen dLen)) (w.setRow g (cur.toList.take o ++ cs ++ cur.toList.drop (o + cs.length)).toArray) := by
  have hl := run_loadCells_list (P := P) w a cs hsrc
  have hst := run_storeCells_at P g o t cs 0 cur w hg (by simpa using hfit) h1
  cases hq : P.info? elem with
  | none => simp [hq] at hs
  | some i =>
    have hi : i.size = size := by simpa [hq] using hs
    simp [Builtin.copy_, run_underlying hu, Builtin.lenOf, Builtin.firstCells, sizeOf, typeInfo, hq, hi, ← hn, hl, hst]
theorem run_copy_nilS {P : Program} (w : World) (dT sT ty elem : TypeId) (d : Option Addr) (s : Option Addr) (dLen dCap sCap : Nat) (hu : P.underlying dT = some (.slice elem)) (hs : ((P.info? elem).map (·.size)).isSome = true) :
    (Builtin.copy_ #[dT, sT] ty #[.slice d dLen dCap, .slice s 0 sCap]).run P w = .ok (goInt 0) w := by
  cases hq : P.info? elem with
  | none => simp [hq] at hs
  | some i => cases d <;> cases s <;> simp [Builtin.copy_, run_underlying hu, Builtin.lenOf, Builtin.firstCells, sizeOf, typeInfo, hq, storeCells, loadCells, loadCellsFrom]
section
variable {P : Program} {w : World} {ops : Array Oper} {rest : List Oper} {o : Oper} {a : Act} {Q : Exit → Act → World → Prop}
/-- 'copy(d, s)' of n elements into a new row of at least so many: the row holds their cells, then what it held. -/
theorem wpList_copy_new (hgd : o.guard = none) (d s : Operand) (dT sT : TypeId) (ho : o.op = .call { callee := .builtin .copy, args := #[d, s], argTypes := #[dT, sT] }) (elem : TypeId) (size : Nat) (hu : P.underlying dT = some (.slice elem)) (hsz : (P.info? elem).map (·.size) = some size)
    (g dLen dCap : Nat) (sp : Option Addr) (sLen sCap : Nat) (hd : a.eval d = .slice (some ⟨g, 0, none⟩) dLen dCap) (hs : a.eval s = .slice sp sLen sCap)
    (cur : Array Value) (t : TypeId) (hg : w.heap[g]? = some (.cells cur t (0, 0))) (cs : List Value) (hn : cs.length = sLen * size) (hle : sLen ≤ dLen)
    (hsrc : 0 < sLen → ∃ g2 o2, sp = some ⟨g2, o2, none⟩ ∧ ∀ j v, cs[j]? = some v → w.cell? ⟨g2, o2 + j, none⟩ = some v) (hfit : cs.length ≤ cur.size) (h1 : ∀ v ∈ cs, v.oneCell' = true)
    (h : ∀ w', w'.heap[g]? = some (.cells (cs ++ cur.toList.drop cs.length).toArray t (0, 0)) → (∀ k, k ≠ g → w'.heap[k]? = w.heap[k]?) → w'.heap.size = w.heap.size → Below g w w' → wpList P ops Q rest (a.put o.dst (goInt sLen)) w') : wpList P ops Q (o :: rest) a w := by
  refine wpList_plain hgd fun K hK => ?_
  have hmin : Nat.min sLen dLen = sLen := Nat.min_eq_left hle
  rcases Nat.eq_zero_or_pos sLen with h0 | h0
  · subst h0
    have hc : cs = [] := List.eq_nil_of_length_eq_zero (by simpa using hn)
    subst hc
    have hrun := run_copy_nilS (P := P) w dT sT o.type elem (some ⟨g, 0, none⟩) sp dLen dCap sCap hu (by rw [hsz]; rfl)
    unfold Oper.wp
    simp [execOp, ho, resolve, invoke, builtin, hd, hs, hrun, Result.andThen]
    exact hK _ _ (h w (by simpa using hg) (fun _ _ => rfl) rfl (Below.refl _ _))
  · obtain ⟨g2, o2, rfl, hcells⟩ := hsrc h0
    have hrun := run_copy_rowS (P := P) w dT sT o.type elem size g 0 dLen dCap ⟨g2, o2, none⟩ sLen sCap cur t cs hu hsz hg (by rw [hmin]; exact hn) (fun j v hj => by rw [add_at]; exact hcells j v hj) (by simpa using hfit) h1
    rw [hmin] at hrun
    unfold Oper.wp
    simp only [execOp, ho, resolve, invoke, builtin, Sem.run_bind, Sem.run_pure, Result.andThen_ok, List.map_toArray, List.map_cons, List.map_nil, hd, hs, hrun]
    refine hK _ _ (h _ ?_ (fun k hk => setRow_other w g k _ hk) (by simp [World.setRow]) (below_setRow (Below.refl _ _) (Nat.le_refl _) _))
    rw [setRow_heap w g cur _ t _ hg]
    simp
end
/-- Nine cells written behind the others. -/
theorem nine_last {w : World} {g o : Nat} {cs : List Value} {T : TypeId} {z0 z1 z2 z3 z4 z5 z6 z7 z8 a0 a1 a2 a3 a4 a5 a6 a7 a8 : Value} (h : w.heap[g]? = some (.cells (cs ++ [z0, z1, z2, z3, z4, z5, z6, z7, z8]).toArray T (0, 0))) (ho : cs.length = o) :
    (((((((((w.setCell ⟨g, o, none⟩ a0).setCell ⟨g, o + 1, none⟩ a1).setCell ⟨g, o + 2, none⟩ a2).setCell ⟨g, o + 3, none⟩ a3).setCell ⟨g, o + 4, none⟩ a4).setCell ⟨g, o + 5, none⟩ a5).setCell ⟨g, o + 6, none⟩ a6).setCell ⟨g, o + 7, none⟩ a7).setCell ⟨g, o + 8, none⟩ a8).heap[g]? = some (.cells (cs ++ [a0, a1, a2, a3, a4, a5, a6, a7, a8]).toArray T (0, 0)) := by
  have s9 : ∀ (l : List Value) (i : Nat) (v : Value), (cs ++ l).toArray.setIfInBounds (o + i) v = (cs ++ l.set i v).toArray := fun l i v => by
    subst ho
    apply Array.ext'
    simp
  have h0 : (w.setCell ⟨g, o, none⟩ a0).heap[g]? = some (.cells (cs ++ [a0, z1, z2, z3, z4, z5, z6, z7, z8]).toArray T (0, 0)) := by
    have e := blk_set h (o + 0) a0
    rw [s9 [z0, z1, z2, z3, z4, z5, z6, z7, z8] 0 a0] at e
    exact e
  have h1 : ((w.setCell ⟨g, o, none⟩ a0).setCell ⟨g, o + 1, none⟩ a1).heap[g]? = some (.cells (cs ++ [a0, a1, z2, z3, z4, z5, z6, z7, z8]).toArray T (0, 0)) := by
    have e := blk_set h0 (o + 1) a1
    rw [s9 [a0, z1, z2, z3, z4, z5, z6, z7, z8] 1 a1] at e
    exact e
  have h2 : (((w.setCell ⟨g, o, none⟩ a0).setCell ⟨g, o + 1, none⟩ a1).setCell ⟨g, o + 2, none⟩ a2).heap[g]? = some (.cells (cs ++ [a0, a1, a2, z3, z4, z5, z6, z7, z8]).toArray T (0, 0)) := by
    have e := blk_set h1 (o + 2) a2
    rw [s9 [a0, a1, z2, z3, z4, z5, z6, z7, z8] 2 a2] at e
    exact e
  have h3 : ((((w.setCell ⟨g, o, none⟩ a0).setCell ⟨g, o + 1, none⟩ a1).setCell ⟨g, o + 2, none⟩ a2).setCell ⟨g, o + 3, none⟩ a3).heap[g]? = some (.cells (cs ++ [a0, a1, a2, a3, z4, z5, z6, z7, z8]).toArray T (0, 0)) := by
    have e := blk_set h2 (o + 3) a3
    rw [s9 [a0, a1, a2, z3, z4, z5, z6, z7, z8] 3 a3] at e
    exact e
  have h4 : (((((w.setCell ⟨g, o, none⟩ a0).setCell ⟨g, o + 1, none⟩ a1).setCell ⟨g, o + 2, none⟩ a2).setCell ⟨g, o + 3, none⟩ a3).setCell ⟨g, o + 4, none⟩ a4).heap[g]? = some (.cells (cs ++ [a0, a1, a2, a3, a4, z5, z6, z7, z8]).toArray T (0, 0)) := by
    have e := blk_set h3 (o + 4) a4
    rw [s9 [a0, a1, a2, a3, z4, z5, z6, z7, z8] 4 a4] at e
    exact e
  have h5 : ((((((w.setCell ⟨g, o, none⟩ a0).setCell ⟨g, o + 1, none⟩ a1).setCell ⟨g, o + 2, none⟩ a2).setCell ⟨g, o + 3, none⟩ a3).setCell ⟨g, o + 4, none⟩ a4).setCell ⟨g, o + 5, none⟩ a5).heap[g]? = some (.cells (cs ++ [a0, a1, a2, a3, a4, a5, z6, z7, z8]).toArray T (0, 0)) := by
    have e := blk_set h4 (o + 5) a5
    rw [s9 [a0, a1, a2, a3, a4, z5, z6, z7, z8] 5 a5] at e
    exact e
  have h6 : (((((((w.setCell ⟨g, o, none⟩ a0).setCell ⟨g, o + 1, none⟩ a1).setCell ⟨g, o + 2, none⟩ a2).setCell ⟨g, o + 3, none⟩ a3).setCell ⟨g, o + 4, none⟩ a4).setCell ⟨g, o + 5, none⟩ a5).setCell ⟨g, o + 6, none⟩ a6).heap[g]? = some (.cells (cs ++ [a0, a1, a2, a3, a4, a5, a6, z7, z8]).toArray T (0, 0)) := by
    have e := blk_set h5 (o + 6) a6
    rw [s9 [a0, a1, a2, a3, a4, a5, z6, z7, z8] 6 a6] at e
    exact e
  have h7 : ((((((((w.setCell ⟨g, o, none⟩ a0).setCell ⟨g, o + 1, none⟩ a1).setCell ⟨g, o + 2, none⟩ a2).setCell ⟨g, o + 3, none⟩ a3).setCell ⟨g, o + 4, none⟩ a4).setCell ⟨g, o + 5, none⟩ a5).setCell ⟨g, o + 6, none⟩ a6).setCell ⟨g, o + 7, none⟩ a7).heap[g]? = some (.cells (cs ++ [a0, a1, a2, a3, a4, a5, a6, a7, z8]).toArray T (0, 0)) := by
    have e := blk_set h6 (o + 7) a7
    rw [s9 [a0, a1, a2, a3, a4, a5, a6, z7, z8] 7 a7] at e
    exact e
  have h8 : (((((((((w.setCell ⟨g, o, none⟩ a0).setCell ⟨g, o + 1, none⟩ a1).setCell ⟨g, o + 2, none⟩ a2).setCell ⟨g, o + 3, none⟩ a3).setCell ⟨g, o + 4, none⟩ a4).setCell ⟨g, o + 5, none⟩ a5).setCell ⟨g, o + 6, none⟩ a6).setCell ⟨g, o + 7, none⟩ a7).setCell ⟨g, o + 8, none⟩ a8).heap[g]? = some (.cells (cs ++ [a0, a1, a2, a3, a4, a5, a6, a7, a8]).toArray T (0, 0)) := by
    have e := blk_set h7 (o + 8) a8
    rw [s9 [a0, a1, a2, a3, a4, a5, a6, a7, z8] 8 a8] at e
    exact e
  exact h8
end Go.Proofs.Ytkkbblpofhenpaa

/- The laws' Refs, Ref, Cut of lanes. -/
namespace Go.Proofs.Ytkkbblpofhenpaa
open Go.RowKit

theorem Try.infoRFrame : (Try.prog.info? 48).map (fun i => (i.zero, i.size, i.bytes)) = some (some (.agg #[.int .i64 0, .int .i64 0, .int .i64 0, .int .i64 0, .slice none 0 0, .int .i64 0, .int .i64 0, .int .i64 0, .slice none 0 0]), 9, 104) := by kernel_rfl
theorem FrOn.rep {fr : Bool} {w : World} {S : Nat → Prop} {A B : Option Addr} {k l : Nat} {f : Fr} (h : FrOn fr w S (.agg #[.int .i64 f.kind, .int .i64 f.epoch, .int .i64 f.seq, .int .i64 f.letter, .slice A f.pieces.length k, .int .i64 f.init, .int .i64 f.num, .int .i64 f.count, .slice B f.path.length l]) f) :
    Rep.frame.is fr w S (fcells f (.slice A f.pieces.length k) (.slice B f.path.length l)) f := by
  obtain ⟨_, _, _, _, he, h1, h2⟩ := h
  cases he
  exact ⟨_, _, rfl, h1, h2⟩
theorem AcG.is_ {α : Type} {r : Rep α} {e : TypeId} {hi B : Nat} {w : World} {v : Value} {xs : List α} (h : AcG r e hi B w v xs) : SliceIs r false w 0 w.heap.size v xs :=
  SliceOn.is_ (h.slice.widen fun _ hb => ⟨Nat.zero_le _, hb.2⟩)

set_option maxRecDepth 100000 in
set_option maxHeartbeats 2000000 in
theorem larefs_any (hi : Nat) (v : Value) (l : List Fr) (w : World) (hhi : hi ≤ w.heap.size) (h : SliceIs Rep.frame false w 0 hi v l) (hn : l.length ≤ 1000000) (hn2 : ∀ f ∈ l, f.pieces.length ≤ 1000000) : Calls Try.prog 58 #[v] w
    fun y w' => (∃ u, y = .returned u ∧ SliceOn Rep.frame false w' (fun b => (b < hi ∨ w.heap.size ≤ b) ∧ b < w'.heap.size) u l) ∧ Below w.heap.size w w' := by
  obtain ⟨A, c, rfl, l1, m1, h1⟩ := h
  unfold maxLen at m1
  go_enter Try.func58, Try.ntmps58
  go_wp2_with fail
  go_loopg [3, 4] l.length (fun k u i wr => ∃ j : Nat, i = .int .i64 (j : Int) ∧ j ≤ l.length ∧ k = l.length - j ∧ AcG Rep.frame 48 hi w.heap.size wr u (l.take j) ∧ Below w.heap.size w wr)
  case atStart => exact ⟨0, rfl, by omega, by omega, AcG.empty _ _ _ _, (Below.refl _ _).alloc (Nat.le_refl _) _⟩
  case round =>
    obtain ⟨j, rfl, hj, hk, ht, hb⟩ := hrel
    have HK := Lib.hid hk; clear hk
    by_cases hlt : j < l.length
    ·
      obtain ⟨x, hx⟩ := Pc.get_at hlt
      have hxl := hn2 x (List.mem_of_getElem? hx)
      obtain ⟨g, o, cA, cB, ck, cl, rfl, _, hg, hc, hp⟩ := (SliceAt.below h1 hb hhi).frame hx
      have htk := Pc.take_next hx
      have HT := Lib.hid htk; clear htk hx h1
      have c0 := hc 0 _ rfl
      have c1 := hc 1 _ rfl
      have c2 := hc 2 _ rfl
      have c3 := hc 3 _ rfl
      have c4 := hc 4 _ rfl
      have c5 := hc 5 _ rfl
      have c6 := hc 6 _ rfl
      have c7 := hc 7 _ rfl
      have c8 := hc 8 _ rfl
      simp only [Nat.add_zero] at c0
      have HP := Lib.hid hp; clear hp hc
      have hnl : (l.take j).length ≤ 1000000 := by rw [List.length_take]; omega
      have hlj : (l.take j).length = j := by rw [List.length_take]; omega
      obtain ⟨UA, uc, hv, _, _, _⟩ := id ht.slice
      rw [hlj] at hv
      subst hv
      clear hlj
      have hsz := hb.size
      have hgl : g < wr.heap.size := by omega
      go_wp2_with fail
      clear c0 c1 c2 c3 c4 c5 c6 c7 c8
      refine (frrefl_any 0 hi _ x _ (Nat.le_trans hhi hsz) HP.out hxl).mono ?_
      rintro e w1 ⟨⟨u1, rfl, hu1⟩, hb1⟩
      obtain ⟨eA, eB, ek, el, he, _, _⟩ := id hu1
      subst he
      have hrp := hu1.rep
      have hkb := fun (b : Nat) (q : b < wr.heap.size) => hb1.block b q
      have hs1 := hb1.size
      have HKB := Lib.hid hkb; have HB := Lib.hid (hb.trans (hb1.mono hb.size)); clear hkb hb hb1 hu1
      have hcs : Rep.frame.is false w1 (fun b => (b < hi ∨ wr.heap.size ≤ b) ∧ b < w1.heap.size) _ x := Rep.frame.widen hrp fun b hb => by omega
      have HC := Lib.hid hcs; clear hcs hrp
      go_wp2_with (at_builtin; refine wpList_acG (r := Rep.frame) (w0 := wr) (y := x) rfl (.tmp 12) (.tmp 18) 26 rfl hi w.heap.size 48 Try.infoRFrame Try.underlying26 rfl (by omega) (.slice UA j uc) rfl ht HKB.out hs1 hsz hhi 1 _ _ rfl rfl HC.out hnl ?_; intro v2 w2 hnew _ hb3)
      rw [← HT.out] at hnew
      go_roundg (l.length - (j + 1))
      case rel => exact ⟨j + 1, by simp, by omega, rfl, hnew, HB.out.trans hb3⟩
      case measure => have := HK.out; omega
    ·
      rw [List.take_of_length_le (by omega)] at ht
      have hs := ht.slice
      have HS := Lib.hid hs; clear hs ht
      go_wp2_with fail
      go_ret
      exact ⟨⟨_, rfl, HS.out⟩, hb⟩

set_option maxRecDepth 100000 in
set_option maxHeartbeats 2000000 in
theorem laref_any (v : Value) (a : La) (w : World) (h : LaIs false w 0 w.heap.size v a) (hn : a.l.length ≤ 1000000) (hn2 : ∀ f ∈ a.l, f.pieces.length ≤ 1000000) : Calls Try.prog 15 #[v] w
    fun y w' => (∃ u, y = .returned u ∧ LaIs false w' 0 w'.heap.size u a) ∧ Below w.heap.size w w' := by
  obtain ⟨A, c, rfl, h1⟩ := h
  go_enter Try.func15, Try.ntmps15
  go_upto_region 1 with fail
  refine name_wp fun W0 hW0 => ?_
  have bx : Box W0 w.heap.size #[.bool a.fifo, .int .i64 a.cap, .slice A a.l.length c] 25 := hW0 ▸ (Box.at' _ _ rfl).alloc _
  have b2 : Box W0 (w.heap.size + 1) #[.bool false, .int .i64 0, .slice none 0 0] 28 := hW0 ▸ Box.at' _ _ (by simp)
  have hB : Below w.heap.size w W0 := hW0 ▸ ((Below.refl _ _).alloc (Nat.le_refl _) _).alloc (by simp) _
  clear hW0
  have hs := h1.below hB (Nat.le_refl _)
  have hW0 := b2.lt
  have hzd : W0.drew.heap.size = W0.heap.size := rfl
  clear h1
  replace bx := bx.next ((Below.refl _ _).drew)
  replace b2 := b2.next ((Below.refl _ _).drew)
  replace hB := hB.drew
  have hE := Ext.refl (W0.drew)
  refine region_go 64 (by kernel_rfl) ?_
  obtain ⟨d0, d1, d2⟩ := three_cells bx
  refine wpAny_go 64 0 [4, 5] 48 7 (by kernel_rfl) (by kernel_rfl) (fun _ _ _ _ _ h => h) (by kernel_rfl) (by rfl) (by rfl) (by kernel_rfl) ?_
  simp only [List.map_cons, List.map_nil, List.getD_cons_succ, List.getD_cons_zero]
  go_wp2_with fail
  change wpAnyM _ _ _ _ _ _ _ _ _ _
  refine wpAny_reads 64 48 [0, 1, 2, 3] 63 3 (by kernel_rfl) (by kernel_rfl) (fun _ _ _ _ _ h => h) (by kernel_rfl) (by rfl) (by rfl) (by kernel_rfl) ?_
  simp only [List.map_cons, List.map_nil, List.getD_cons_succ, List.getD_cons_zero]
  go_wp2_with fail
  change _ → wpAnyM _ _ _ _ _ _ _ _ _ _; intro _
  clear d0 d1 d2
  refine wpAny_oneM 6 127 (by kernel_rfl) (by kernel_rfl) (of_decide_eq_true (by kernel_rfl)) (by rfl) ?_
  simp only [List.getD_cons_succ, List.getD_cons_zero]
  go_wp2_with fail
  refine (larefs_any w.heap.size _ a.l _ (by omega) (hs.below ((Below.refl w.heap.size W0).drew) (Nat.le_refl _)) hn hn2).mono ?_
  rintro e w1 ⟨⟨u, rfl, hu⟩, hb⟩
  replace bx := bx.next hb
  replace b2 := b2.next hb
  replace hE := hE.trans (Ext.below hb (Nat.le_refl _))
  replace hB := hB.trans (hb.mono hB.size)
  clear hb
  obtain ⟨A2, c2, rfl, _⟩ := id hu
  go_wp2_with fail
  refine ⟨fun _ => hE, ?_⟩
  obtain ⟨g0, g1, g2⟩ := three_cells b2
  have f0 := three_free b2 0
  have f1 := three_free b2 1
  have f2 := three_free b2 2
  refine wpAny_go 64 127 [7, 8] 511 0 (by kernel_rfl) (by kernel_rfl) (fun _ _ _ _ _ h => h) (by kernel_rfl) (by rfl) (by rfl) (by kernel_rfl) ?_
  simp only [List.map_cons, List.map_nil, List.getD_cons_succ, List.getD_cons_zero]
  go_wp2_with fail
  change wpAnyM _ _ _ _ _ _ _ _ _ _
  clear g0 g1 g2 f0 f1 f2
  refine nameAny fun V hV => ?_
  have b3 : Box V (w.heap.size + 1) #[.bool a.fifo, .int .i64 a.cap, .slice A2 a.l.length c2] 28 := by rw [← hV]; exact blk_set (blk_set (blk_set b2 0 _) 1 _) 2 _
  have hBV : Below w.heap.size w V := by rw [← hV]; exact ((hB.setCell (Nat.le_succ _) _).setCell (Nat.le_succ _) _).setCell (Nat.le_succ _) _
  have hfV : ∀ q, q ≠ w.heap.size + 1 → V.heap[q]? = w1.heap[q]? := fun q hq => by rw [← hV]; exact ((heap_setCell_other _ _ _ _ hq).trans (heap_setCell_other _ _ _ _ hq)).trans (heap_setCell_other _ _ _ _ hq)
  have hzV : V.heap.size = w1.heap.size := by rw [← hV]; simp [World.setCell]
  clear hV
  refine wpAny_endM (by kernel_rfl) (by kernel_rfl) ?_
  obtain ⟨g0, g1, g2⟩ := three_cells b3
  go_wp2_with fail
  refine bodyPost_ret (v := .agg #[.bool a.fifo, .int .i64 a.cap, .slice A2 a.l.length c2]) (by simp [results, Try.results15, g0, g1, g2, go_sem]) rfl ⟨⟨_, rfl, A2, c2, rfl, ?_⟩, hBV⟩
  exact SliceOn.is_ ((hu.keep fun q hq => hfV q (by omega)).widen fun q hq => ⟨Nat.zero_le _, by omega⟩)
end Go.Proofs.Ytkkbblpofhenpaa

/- The law's Cut of a lane. -/
namespace Go.Proofs.Ytkkbblpofhenpaa
open Go.RowKit

set_option maxRecDepth 100000 in
set_option maxHeartbeats 4000000 in
theorem lacut_any (v : Value) (a : La) (w : World) (h : LaIs false w 0 w.heap.size v a) : Calls Try.prog 35 #[v] w
    fun y w' => (∃ u, y = .returned u ∧ LaIs false w' w.heap.size w'.heap.size u (La.cut a)) ∧ Below w.heap.size w w' := by
  obtain ⟨A, c, rfl, h1⟩ := h
  have hl := h1.len_le
  go_enter Try.func35, Try.ntmps35
  go_upto_region 1 with fail
  refine name_wp fun W0 hW0 => ?_
  have bx : Box W0 w.heap.size #[.bool a.fifo, .int .i64 a.cap, .slice A a.l.length c] 25 := hW0 ▸ (Box.at' _ _ rfl).alloc _
  have b2 : Box W0 (w.heap.size + 1) #[.bool false, .int .i64 0, .slice none 0 0] 25 := hW0 ▸ Box.at' _ _ (by simp)
  have hB : Below w.heap.size w W0 := hW0 ▸ ((Below.refl _ _).alloc (Nat.le_refl _) _).alloc (by simp) _
  clear hW0
  obtain ⟨d0, d1, d2⟩ := three_cells bx
  go_upto_region 2 with fail
  clear d0 d1 d2
  refine name_wp fun W1 hW1 => ?_
  have bg : Box W1 W0.heap.size #[.bool a.fifo, .int .i64 a.cap, .slice none 0 0] 25 := hW1 ▸ Box.new _ _ _
  have hV : Below W0.heap.size W0 W1 := hW1 ▸ (Below.refl _ _).alloc (Nat.le_refl _) _
  clear hW1
  have hE2 : w.heap.size + 1 < W0.heap.size := b2.lt
  have hgl := bg.lt
  have HBX := Lib.hid bx; have HB2 := Lib.hid b2; have HP1 := Lib.hid h1; have HBB := Lib.hid hB; have HE2 := Lib.hid hE2; have HGL := Lib.hid hgl; clear bx b2 h1 hB hE2 hgl
  go_wp2_with fail
  go_loopg [4] a.l.length (fun kk iv wr => ∃ (j : Nat) (u : Value), iv = .int .i64 (j : Int) ∧ j ≤ a.l.length ∧ j ≤ 30 ∧ kk = a.l.length - j ∧ AcF Rep.frame 37 W1.heap.size wr u ((a.l.take j).map Fr.cut) ∧ Box wr W0.heap.size #[.bool a.fifo, .int .i64 a.cap, u] 25 ∧ Below W0.heap.size W0 wr ∧ CutKeep W0.heap.size W1 wr)
  case atStart => exact ⟨0, _, rfl, by omega, by omega, by omega, AcF.nil _ _ _ _, bg, hV, CutKeep.refl _ _⟩
  case round =>
    clear bg hV
    obtain ⟨j, u, rfl, hj, hj7, hk, hacc, bg, hV, hkp⟩ := hrel
    have HK := Lib.hid hk; clear hk
    obtain ⟨UA, uc, rfl, hul, hum, _⟩ := id hacc.slice
    have hlj : ((a.l.take j).map Fr.cut).length = j := by simp; omega
    rw [hlj] at hacc bg hul
    have HLJ := Lib.hid hlj; clear hlj
    have hd := hV.drew
    have bxd : Box wr.drew w.heap.size #[.bool a.fifo, .int .i64 a.cap, .slice A a.l.length c] 25 := (hd.block _ (Nat.lt_of_succ_lt HE2.out)).trans HBX.out
    have hnul : ((a.l.take j).map Fr.cut).length ≤ 1000000 := by rw [List.length_map, List.length_take]; omega
    by_cases hlt : j < a.l.length
    ·
      by_cases h7 : (j : Int) < 30
      ·
        have hbx0 : Box wr w.heap.size #[.bool a.fifo, .int .i64 a.cap, .slice A a.l.length c] 25 := (hV.block _ (Nat.lt_of_succ_lt HE2.out)).trans HBX.out
        obtain ⟨x, hx⟩ := Pc.get_at hlt
        have hBw := HBB.out.trans (hd.mono HBB.out.size)
        obtain ⟨gp, o, cA, cB, ck, cl, he, _, hgp, hc, hp⟩ := (HP1.out.below hBw (Nat.le_refl _)).at'.frame hx
        subst he
        have htk : (a.l.take (j + 1)).map Fr.cut = (a.l.take j).map Fr.cut ++ [Fr.cut x] := by rw [Pc.take_next hx, List.map_append]; rfl
        have HT := Lib.hid htk; clear htk hx
        have c0 := hc 0 _ rfl
        have c1 := hc 1 _ rfl
        have c2 := hc 2 _ rfl
        have c3 := hc 3 _ rfl
        have c4 := hc 4 _ rfl
        have c5 := hc 5 _ rfl
        have c6 := hc 6 _ rfl
        have c7 := hc 7 _ rfl
        have c8 := hc 8 _ rfl
        simp only [Nat.add_zero] at c0
        have hpw := hp.widen (Nat.le_refl 0) hBw.size
        have HPW := Lib.hid hpw; clear hp hpw hc
        obtain ⟨k0, k1, k2⟩ := three_cells hbx0
        go_upto_region 5 with fail
        clear k0 k1 k2
        have bgd := bg.next ((Below.refl _ _).drew)
        have haccd := hacc.below ((Below.refl wr.heap.size wr).drew)
        have hE := Ext.refl wr.drew
        refine region_go 128 (by kernel_rfl) ?_
        obtain ⟨d0, d1, d2⟩ := three_cells bxd
        refine wpAny_go 128 0 [2, 3, 4, 5, 6] 124 7 (by kernel_rfl) (by kernel_rfl) (fun _ _ _ _ _ h => h) (by kernel_rfl) (by rfl) (by rfl) (by kernel_rfl) ?_
        simp only [List.map_cons, List.map_nil, List.getD_cons_succ, List.getD_cons_zero]
        go_wp2_with fail
        change wpAnyM _ _ _ _ _ _ _ _ _ _
        clear d0 d1 d2
        clear c0 c1 c2 c3 c4 c5 c6 c7 c8
        obtain ⟨d0, d1, d2⟩ := three_cells bgd
        refine wpAny_reads 128 124 [0, 1] 127 5 (by kernel_rfl) (by kernel_rfl) (fun _ _ _ _ _ h => h) (by kernel_rfl) (by rfl) (by rfl) (by kernel_rfl) ?_
        simp only [List.map_cons, List.map_nil, List.getD_cons_succ, List.getD_cons_zero]
        go_wp2_with fail
        change _ → wpAnyM _ _ _ _ _ _ _ _ _ _; intro _
        clear d0 d1 d2
        refine wpAny_oneM 7 255 (by kernel_rfl) (by kernel_rfl) (of_decide_eq_true (by kernel_rfl)) (by rfl) ?_
        simp only [List.getD_cons_succ, List.getD_cons_zero]
        go_wp2_with fail
        refine (frcut_any _ x _ HPW.out).mono ?_
        rintro z w2 ⟨⟨v2, rfl, hu2⟩, hh⟩
        replace bgd := bgd.next hh
        replace hE := hE.trans (Ext.below hh (Nat.le_refl _))
        obtain ⟨eA, eB, ek, el, he, _, _⟩ := id hu2
        subst he
        have hcs := hu2.rep
        have HCS := Lib.hid hcs; clear hcs hu2
        go_wp2_with fail
        refine ⟨fun _ => hE, ?_⟩
        refine wpAny_go 128 255 [8] 511 3 (by kernel_rfl) (by kernel_rfl) (fun _ _ _ _ _ h => h) (by kernel_rfl) (by rfl) (by rfl) (by kernel_rfl) ?_
        simp only [List.map_cons, List.map_nil, List.getD_cons_succ, List.getD_cons_zero]
        go_wp2_with fail
        change wpAnyM _ _ _ _ _ _ _ _ _ _
        refine wpAny_oneM 9 1023 (by kernel_rfl) (by kernel_rfl) (of_decide_eq_true (by kernel_rfl)) (by rfl) ?_
        simp only [List.getD_cons_succ, List.getD_cons_zero]
        refine wpList_acF (r := Rep.frame) (w0 := wr.drew) (y := Fr.cut x) rfl (.tmp 22) (.tmp 29) 23 rfl W1.heap.size 37 Try.infoFrame Try.underlying23 rfl (by omega) (.slice UA j uc) rfl haccd (fun b h1 h2 => hh.block b h2) hh.size hkp.1 1 _ _ rfl rfl HCS.out hnul ?_
        intro v9 w9 hacc9 hgr9 hb9
        obtain ⟨NA, nc, rfl, _, _, _⟩ := id hacc9.slice
        have hl1 : ((a.l.take j).map Fr.cut ++ [Fr.cut x]).length = j + 1 := by rw [List.length_append, HLJ.out]; rfl
        rw [hl1] at hacc9 ⊢
        clear hl1
        have hg9 : Box w9 W0.heap.size _ _ := (hb9.block _ HGL.out).trans bgd
        have hV2 : Below W0.heap.size W0 w2 := hd.trans (hh.mono hd.size)
        have hV9 : Below W0.heap.size W0 w9 := hV2.trans (hb9.mono (Nat.le_of_lt HGL.out))
        have hk9 : CutKeep W0.heap.size W1 w9 := ⟨Nat.le_trans hkp.1 (Nat.le_trans hh.size hb9.size), fun q h1 h2 => (hb9.block q h2).trans ((hh.block q (Nat.lt_of_lt_of_le h2 hkp.1)).trans (hkp.2 q h1 h2))⟩
        clear hacc haccd bg bgd hb9 hgr9 hh HCS HPW hV2 hkp hd bxd hE
        go_wp2_with fail
        refine ⟨fun h => absurd h (by decide), ?_⟩
        obtain ⟨d0, d1, d2⟩ := three_cells hg9
        have f0 := three_free hg9 0
        have f1 := three_free hg9 1
        have f2 := three_free hg9 2
        refine wpAny_go 128 1023 [10, 11] 4095 0 (by kernel_rfl) (by kernel_rfl) (fun _ _ _ _ _ h => h) (by kernel_rfl) (by rfl) (by rfl) (by kernel_rfl) ?_
        simp only [List.map_cons, List.map_nil, List.getD_cons_succ, List.getD_cons_zero]
        go_wp2_with fail
        change wpAnyM _ _ _ _ _ _ _ _ _ _
        clear d0 d1 d2 f0 f1 f2
        refine nameAny fun V hV0 => ?_
        have bgV : Box V W0.heap.size #[.bool a.fifo, .int .i64 a.cap, (.slice NA (j + 1) nc)] 25 := by rw [← hV0]; exact blk_set hg9 2 _
        have hVV : Below W0.heap.size W0 V := by rw [← hV0]; exact hV9.setCell (Nat.le_refl _) _
        have hkV : CutKeep W0.heap.size W1 V := by rw [← hV0]; exact ⟨by simpa [World.setCell] using hk9.1, fun q h1 h2 => (heap_setCell_other _ _ _ _ h1).trans (hk9.2 q h1 h2)⟩
        have haV : AcF Rep.frame 37 W1.heap.size V (.slice NA (j + 1) nc) ((a.l.take j).map Fr.cut ++ [Fr.cut x]) := by rw [← hV0]; exact hacc9.move (fun q h1 _ => heap_setCell_other _ _ _ _ (Nat.ne_of_gt (Nat.lt_of_lt_of_le HGL.out h1))) (by simp [World.setCell])
        rw [← HT.out] at haV
        clear hV0 hg9 hV9 hk9 hacc9
        refine wpAny_endM (by kernel_rfl) (by kernel_rfl) ?_
        go_wp2_with fail
        go_roundg (a.l.length - (j + 1))
        case rel => exact ⟨j + 1, _, by simp, by omega, by omega, rfl, haV, bgV, hVV, hkV⟩
        case measure => have := HK.out; omega
      ·
        have hpc : (a.l.take j).map Fr.cut = (a.l.take 30).map Fr.cut := by rw [show j = 30 by omega]
        have HPC := Lib.hid hpc; clear hpc
        have b2r : Box wr (w.heap.size + 1) #[.bool false, .int .i64 0, .slice none 0 0] 25 := (hV.block _ HE2.out).trans HB2.out
        have hbx0 : Box wr w.heap.size #[.bool a.fifo, .int .i64 a.cap, .slice A a.l.length c] 25 := (hV.block _ (Nat.lt_of_succ_lt HE2.out)).trans HBX.out
        obtain ⟨k0, k1, k2⟩ := three_cells hbx0
        obtain ⟨d0, d1, d2⟩ := three_cells bg
        obtain ⟨g0, g1, g2⟩ := three_cells b2r
        have f0 := three_free b2r 0
        have f1 := three_free b2r 1
        have f2 := three_free b2r 2
        have HA9 := Lib.hid hacc; have HV9 := Lib.hid hV; have HK9 := Lib.hid hkp; have HR9 := Lib.hid b2r; clear hacc hV hkp b2r hd bxd
        go_wp2_with fail
        clear k0 k1 k2 d0 d1 d2 g0 g1 g2 f0 f1 f2
        have r : Box (((wr.setCell ⟨w.heap.size + 1, 0, none⟩ (.bool a.fifo)).setCell ⟨w.heap.size + 1, 1, none⟩ (.int .i64 a.cap)).setCell ⟨w.heap.size + 1, 2, none⟩ (.slice UA j uc)) (w.heap.size + 1) #[.bool a.fifo, .int .i64 a.cap, .slice UA j uc] 25 := blk_set (blk_set (blk_set HR9.out 0 _) 1 _) 2 _
        obtain ⟨g0, g1, g2⟩ := three_cells r
        have hfar : ∀ q, q ≠ w.heap.size + 1 → (((wr.setCell ⟨w.heap.size + 1, 0, none⟩ (.bool a.fifo)).setCell ⟨w.heap.size + 1, 1, none⟩ (.int .i64 a.cap)).setCell ⟨w.heap.size + 1, 2, none⟩ (.slice UA j uc)).heap[q]? = wr.heap[q]? := fun q hq => ((heap_setCell_other _ _ _ _ hq).trans (heap_setCell_other _ _ _ _ hq)).trans (heap_setCell_other _ _ _ _ hq)
        have hz : (((wr.setCell ⟨w.heap.size + 1, 0, none⟩ (.bool a.fifo)).setCell ⟨w.heap.size + 1, 1, none⟩ (.int .i64 a.cap)).setCell ⟨w.heap.size + 1, 2, none⟩ (.slice UA j uc)).heap.size = wr.heap.size := by simp [World.setCell]
        refine bodyPost_ret (v := .agg #[.bool a.fifo, .int .i64 a.cap, .slice UA j uc]) (by simp [results, Try.results35, go_sem, g0, g1, g2]) rfl ⟨⟨_, rfl, ?_⟩, (((HBB.out.trans (HV9.out.mono HBB.out.size)).setCell (Nat.le_succ _) _).setCell (Nat.le_succ _) _).setCell (Nat.le_succ _) _⟩
        have hw1 := HE2.out; have hw3 := HGL.out; have hw4 := HK9.out.1; have hpc := HPC.out; have hlj := HLJ.out
        have hls : SliceIs Rep.frame false _ w.heap.size _ (.slice UA j uc) ((a.l.take j).map Fr.cut) := (HA9.out.slice.keep fun q hq1 _ => hfar q (by omega)).widen (by omega) (Nat.le_of_eq hz.symm)
        rw [hpc] at hls hlj
        exact ⟨UA, uc, by rw [show (La.cut a).l.length = j from hlj]; rfl, by rw [show (La.cut a).l.length = j from hlj]; exact hls⟩
    ·
      have hpc : (a.l.take j).map Fr.cut = (a.l.take 30).map Fr.cut := by rw [List.take_of_length_le (show a.l.length ≤ j by omega), List.take_of_length_le (show a.l.length ≤ 30 by omega)]
      have HPC := Lib.hid hpc; clear hpc
      have b2r : Box wr (w.heap.size + 1) #[.bool false, .int .i64 0, .slice none 0 0] 25 := (hV.block _ HE2.out).trans HB2.out
      have hbx0 : Box wr w.heap.size #[.bool a.fifo, .int .i64 a.cap, .slice A a.l.length c] 25 := (hV.block _ (Nat.lt_of_succ_lt HE2.out)).trans HBX.out
      obtain ⟨k0, k1, k2⟩ := three_cells hbx0
      obtain ⟨d0, d1, d2⟩ := three_cells bg
      obtain ⟨g0, g1, g2⟩ := three_cells b2r
      have f0 := three_free b2r 0
      have f1 := three_free b2r 1
      have f2 := three_free b2r 2
      have HA9 := Lib.hid hacc; have HV9 := Lib.hid hV; have HK9 := Lib.hid hkp; have HR9 := Lib.hid b2r; clear hacc hV hkp b2r hd bxd
      go_wp2_with fail
      clear k0 k1 k2 d0 d1 d2 g0 g1 g2 f0 f1 f2
      have r : Box (((wr.setCell ⟨w.heap.size + 1, 0, none⟩ (.bool a.fifo)).setCell ⟨w.heap.size + 1, 1, none⟩ (.int .i64 a.cap)).setCell ⟨w.heap.size + 1, 2, none⟩ (.slice UA j uc)) (w.heap.size + 1) #[.bool a.fifo, .int .i64 a.cap, .slice UA j uc] 25 := blk_set (blk_set (blk_set HR9.out 0 _) 1 _) 2 _
      obtain ⟨g0, g1, g2⟩ := three_cells r
      have hfar : ∀ q, q ≠ w.heap.size + 1 → (((wr.setCell ⟨w.heap.size + 1, 0, none⟩ (.bool a.fifo)).setCell ⟨w.heap.size + 1, 1, none⟩ (.int .i64 a.cap)).setCell ⟨w.heap.size + 1, 2, none⟩ (.slice UA j uc)).heap[q]? = wr.heap[q]? := fun q hq => ((heap_setCell_other _ _ _ _ hq).trans (heap_setCell_other _ _ _ _ hq)).trans (heap_setCell_other _ _ _ _ hq)
      have hz : (((wr.setCell ⟨w.heap.size + 1, 0, none⟩ (.bool a.fifo)).setCell ⟨w.heap.size + 1, 1, none⟩ (.int .i64 a.cap)).setCell ⟨w.heap.size + 1, 2, none⟩ (.slice UA j uc)).heap.size = wr.heap.size := by simp [World.setCell]
      refine bodyPost_ret (v := .agg #[.bool a.fifo, .int .i64 a.cap, .slice UA j uc]) (by simp [results, Try.results35, go_sem, g0, g1, g2]) rfl ⟨⟨_, rfl, ?_⟩, (((HBB.out.trans (HV9.out.mono HBB.out.size)).setCell (Nat.le_succ _) _).setCell (Nat.le_succ _) _).setCell (Nat.le_succ _) _⟩
      have hw1 := HE2.out; have hw3 := HGL.out; have hw4 := HK9.out.1; have hpc := HPC.out; have hlj := HLJ.out
      have hls : SliceIs Rep.frame false _ w.heap.size _ (.slice UA j uc) ((a.l.take j).map Fr.cut) := (HA9.out.slice.keep fun q hq1 _ => hfar q (by omega)).widen (by omega) (Nat.le_of_eq hz.symm)
      rw [hpc] at hls hlj
      exact ⟨UA, uc, by rw [show (La.cut a).l.length = j from hlj]; rfl, by rw [show (La.cut a).l.length = j from hlj]; exact hls⟩
end Go.Proofs.Ytkkbblpofhenpaa

/- The document's Right and Same of lanes. -/
namespace Go.Proofs.Ytkkbblpofhenpaa
open Go.RowKit

theorem La.right_bad {a : La} {x : Fr} {j : Nat} (hx : a.l[j]? = some x) (h : Fr.right x = false) : La.right a = false := by
  unfold La.right
  have : a.l.all Fr.right = false := by
    rw [List.all_eq_false]
    exact ⟨x, List.mem_of_getElem? hx, by rw [h]; decide⟩
  rw [this]; rfl
theorem La.all_next {l : List Fr} {j : Nat} {x : Fr} (h : (l.take j).all Fr.right = true) (hx : l[j]? = some x) (hr : Fr.right x = true) : (l.take (j + 1)).all Fr.right = true := by
  rw [Pc.take_next hx, List.all_append, h]; simp [hr]
theorem La.right_all {a : La} (h : a.l.all Fr.right = true) : La.right a = La.roomy a.cap (La.cnt 0 a.l) a.l.length := by unfold La.right; rw [h]; rfl

set_option maxRecDepth 100000 in
set_option maxHeartbeats 2000000 in
theorem raright_any (v : Value) (a : La) (w : World) (h : LaIs false w 0 w.heap.size v a) : Calls Try.prog 17 #[v] w
    fun y w' => y = .returned (.bool (La.right a)) ∧ Below w.heap.size w w' := by
  obtain ⟨A, c, rfl, h1⟩ := h
  have hl := h1.len_le
  go_enter Try.func17, Try.ntmps17
  go_upto_region 1 with fail
  refine name_wp fun W0 hW0 => ?_
  have bx : Box W0 w.heap.size #[.bool a.fifo, .int .i64 a.cap, .slice A a.l.length c] 28 := hW0 ▸ Box.at' _ _ rfl
  have hB : Below w.heap.size w W0 := hW0 ▸ (Below.refl _ _).alloc (Nat.le_refl _) _
  clear hW0
  have hs := (h1.below hB (Nat.le_refl _)).widen (Nat.le_refl 0) hB.size
  clear h1
  have HBX := Lib.hid bx; have HS := Lib.hid hs; have HB0 := Lib.hid hB; clear bx hs hB
  go_wp2_with fail
  go_loopg [3] a.l.length (fun m i wr => ∃ j : Nat, i = .int .i64 (j : Int) ∧ j ≤ a.l.length ∧ m = a.l.length - j ∧ (a.l.take j).all Fr.right = true ∧ Below W0.heap.size W0 wr)
  case atStart => exact ⟨0, rfl, by omega, by omega, rfl, Below.refl _ _⟩
  case round =>
    obtain ⟨j, rfl, hj, hm, ha, hb⟩ := hrel
    have HM := Lib.hid hm; have HA := Lib.hid ha; clear hm ha
    have bx := HBX.out.next hb
    have hs := HS.out.next hb
    obtain ⟨d0, d1, d2⟩ := three_cells bx
    by_cases hlt : j < a.l.length
    ·
      obtain ⟨x, hx⟩ := Pc.get_at hlt
      obtain ⟨g, o, cA, cB, ck, cl, he, _, hg, hc, hp⟩ := hs.at'.frame hx
      subst he
      have c0 := hc 0 _ rfl
      have c1 := hc 1 _ rfl
      have c2 := hc 2 _ rfl
      have c3 := hc 3 _ rfl
      have c4 := hc 4 _ rfl
      have c5 := hc 5 _ rfl
      have c6 := hc 6 _ rfl
      have c7 := hc 7 _ rfl
      have c8 := hc 8 _ rfl
      simp only [Nat.add_zero] at c0
      have HX := Lib.hid hx; clear hx hc hs
      have hbl := bx.lt
      obtain ⟨b, hbx⟩ : ∃ b, Fr.right x = b := ⟨_, rfl⟩
      have HBB := Lib.hid hbx; clear hbx
      have HP := Lib.hid hp; clear hp
      go_wp2_with fail
      clear c0 c1 c2 c3 c4 c5 c6 c7 c8
      refine (crright HP.out HBB.out).mono ?_
      rintro z w1 ⟨rfl, hb1⟩
      have hbt := hb.trans (hb1.mono hb.size)
      clear hb1 bx d0 d1 d2 hbl
      cases b
      · go_wp2_with fail
        go_ret
        exact ⟨by rw [La.right_bad HX.out HBB.out]; rfl, HB0.out.trans (hbt.mono HB0.out.size)⟩
      · go_wp2_with fail
        go_roundg (a.l.length - (j + 1))
        case rel => exact ⟨j + 1, by simp, by omega, rfl, La.all_next HA.out HX.out HBB.out, hbt⟩
        case measure => have := HM.out; omega
    ·
      have hall := HA.out
      rw [List.take_of_length_le (by omega)] at hall
      have hra := La.right_all hall
      obtain ⟨n, hn⟩ : ∃ n, La.cnt 0 a.l = n := ⟨_, rfl⟩
      rw [hn] at hra
      have HRA := Lib.hid hra; clear hra
      have hnl : n ≤ a.l.length := hn ▸ La.cnt_le 0 a.l
      have HN := Lib.hid hn; clear hn hall
      have hla : LaIs false wr 0 wr.heap.size (.agg #[.bool a.fifo, .int .i64 a.cap, .slice A a.l.length c]) a := ⟨A, c, rfl, hs⟩
      clear hs
      have hbl := bx.lt
      go_wp2_with fail
      refine (racount_any _ a 0 _ hla).mono ?_
      rw [HN.out]
      rintro z w1 ⟨rfl, hb1⟩
      replace bx := bx.next hb1
      have hbt := HB0.out.trans ((hb.trans (hb1.mono hb.size)).mono HB0.out.size)
      clear hb1 hb hla hbl d0 d1 d2
      obtain ⟨d0, d1, d2⟩ := three_cells bx
      by_cases q1 : 1 ≤ a.cap
      case neg =>
        have hd : decide (1 ≤ a.cap) = false := decide_eq_false q1
        go_wp2_with fail
        go_ret
        exact ⟨by rw [HRA.out]; unfold La.roomy; rw [hd]; rfl, hbt⟩
      by_cases q2 : a.cap ≤ 20
      case neg =>
        have hd : decide (a.cap ≤ 20) = false := decide_eq_false q2
        go_wp2_with fail
        go_ret
        exact ⟨by rw [HRA.out]; unfold La.roomy; rw [decide_eq_true q1, hd]; rfl, hbt⟩
      by_cases q3 : (n : Int) ≤ a.cap
      case neg =>
        have hd : decide ((n : Int) ≤ a.cap) = false := decide_eq_false q3
        go_wp2_with fail
        go_ret
        exact ⟨by rw [HRA.out]; unfold La.roomy; rw [decide_eq_true q1, decide_eq_true q2, hd]; rfl, hbt⟩
      by_cases q4 : (a.l.length : Int) - (n : Int) ≤ 5
      case neg =>
        have hd : decide ((a.l.length : Int) - (n : Int) ≤ 5) = false := decide_eq_false q4
        go_wp2_with fail
        go_ret
        exact ⟨by rw [HRA.out]; unfold La.roomy; rw [decide_eq_true q1, decide_eq_true q2, decide_eq_true q3, hd]; rfl, hbt⟩
      go_wp2_with fail
      go_ret
      exact ⟨by rw [HRA.out]; unfold La.roomy; rw [decide_eq_true q1, decide_eq_true q2, decide_eq_true q3, decide_eq_true q4]; rfl, hbt⟩
end Go.Proofs.Ytkkbblpofhenpaa

/- Count, Apps, Fits of lanes; the document's Fits, Same. -/
namespace Go.Proofs.Ytkkbblpofhenpaa
open Go.RowKit Go.Maps

set_option maxRecDepth 100000 in
set_option maxHeartbeats 2000000 in
theorem lacount_any (v : Value) (a : La) (w : World) (h : LaIs false w 0 w.heap.size v a) (k : Int) (hk : (Lit.int .i64 k).wf = true) (hkd : kinded a.l) (hn : a.l.length ≤ 1000000) : Calls Try.prog 28 #[v, .int .i64 k] w
    fun y w' => y = .returned (.int .i64 (La.cnt k a.l : Int)) ∧ Below w.heap.size w w' := by
  obtain ⟨n, hnn⟩ : ∃ n : Nat, La.cnt k a.l = n := ⟨_, rfl⟩
  rw [hnn]
  have HN := Lib.hid hnn; clear hnn
  obtain ⟨A, c, rfl, h1⟩ := h
  have hl := h1.len_le
  go_enter Try.func28, Try.ntmps28
  go_upto_region 1 with fail
  refine name_wp fun W0 hW0 => ?_
  have bx : Box W0 w.heap.size #[.bool a.fifo, .int .i64 a.cap, .slice A a.l.length c] 25 := hW0 ▸ Box.at' _ _ rfl
  have hB : Below w.heap.size w W0 := hW0 ▸ (Below.refl _ _).alloc (Nat.le_refl _) _
  clear hW0
  have hls : LaIs false W0 0 W0.heap.size (.agg #[.bool a.fifo, .int .i64 a.cap, .slice A a.l.length c]) a := ⟨A, c, rfl, (h1.below hB (Nat.le_refl _)).widen (Nat.le_refl 0) hB.size⟩
  clear h1
  obtain ⟨d0, d1, d2⟩ := three_cells bx
  go_wp2_with fail
  refine (lacounts_any _ a _ hls hkd hn).mono ?_
  rintro z w2 ⟨⟨b, n2, D, rfl, hown, htell⟩, hb⟩
  replace hB := hB.trans (hb.mono hB.size)
  have ht0 := htell k
  rw [HN.out] at ht0
  have HT := Lib.hid ht0; have HOWN := Lib.hid hown; have HW := Lib.hid hk; clear ht0 htell hown hls hb hk
  clear d0 d1 d2
  go_wp2_with (at_lookup; refine wpList_lookup_own_int _ rfl _ _ 108 rfl 3 3 .i64 (int_keyed Try.underlying3) Try.underlying108 Try.underlying3 (Try.zeroInt _) b n2 _ rfl HOWN.out _ _ rfl (keyOf_int_mk (P := Try.prog) Try.underlying3 HW.out) ?_; intro cc hat hwc; obtain rfl : cc = (n : Int) := tell_eq hat HT.out; clear hat hwc)
  go_ret
  exact ⟨rfl, hB⟩

set_option maxRecDepth 100000 in
set_option maxHeartbeats 2000000 in
theorem laapps_any (v : Value) (a : La) (w : World) (h : LaIs false w 0 w.heap.size v a) (hkd : kinded a.l) (hn : a.l.length ≤ 1000000) : Calls Try.prog 26 #[v] w
    fun y w' => y = .returned (.int .i64 (La.cnt 0 a.l : Int)) ∧ Below w.heap.size w w' := by
  obtain ⟨A, c, rfl, h1⟩ := h
  have hl := h1.len_le
  go_enter Try.func26, Try.ntmps26
  go_upto_region 1 with fail
  refine name_wp fun W0 hW0 => ?_
  have bx : Box W0 w.heap.size #[.bool a.fifo, .int .i64 a.cap, .slice A a.l.length c] 25 := hW0 ▸ Box.at' _ _ rfl
  have hB : Below w.heap.size w W0 := hW0 ▸ (Below.refl _ _).alloc (Nat.le_refl _) _
  clear hW0
  have hls : LaIs false W0 0 W0.heap.size (.agg #[.bool a.fifo, .int .i64 a.cap, .slice A a.l.length c]) a := ⟨A, c, rfl, (h1.below hB (Nat.le_refl _)).widen (Nat.le_refl 0) hB.size⟩
  clear h1
  obtain ⟨d0, d1, d2⟩ := three_cells bx
  go_wp2_with fail
  refine (lacount_any _ a _ hls 0 (by decide) hkd hn).mono ?_
  rintro z w2 ⟨rfl, hb⟩
  go_wp2_with fail
  go_ret
  exact ⟨rfl, hB.trans (hb.mono hB.size)⟩

set_option maxRecDepth 100000 in
set_option maxHeartbeats 2000000 in
theorem rafits_few (v : Value) (a : La) (w : World) (h : LaIs false w 0 w.heap.size v a) (n : Int) (hf : n < 1)  : Calls Try.prog 30 #[v, .int .i64 n] w
    fun y w' => y = .returned (.bool true) ∧ Below w.heap.size w w' := by
  obtain ⟨A, c, rfl, h1⟩ := h
  have hl := h1.len_le
  go_enter Try.func30, Try.ntmps30
  go_upto_region 1 with fail
  refine name_wp fun W0 hW0 => ?_
  have bx : Box W0 w.heap.size #[.bool a.fifo, .int .i64 a.cap, .slice A a.l.length c] 28 := hW0 ▸ Box.at' _ _ rfl
  have hB : Below w.heap.size w W0 := hW0 ▸ (Below.refl _ _).alloc (Nat.le_refl _) _
  clear hW0
  have hls : LaIs false W0 0 W0.heap.size (.agg #[.bool a.fifo, .int .i64 a.cap, .slice A a.l.length c]) a := ⟨A, c, rfl, (h1.below hB (Nat.le_refl _)).widen (Nat.le_refl 0) hB.size⟩
  clear h1
  obtain ⟨d0, d1, d2⟩ := three_cells bx
  clear d0 d1 d2
  replace bx := bx.next ((Below.refl _ _).drew)
  replace hls := hls.next ((Below.refl _ _).drew)
  replace hB := hB.drew
  have hE := Ext.refl (W0.drew)
  refine region_go 128 (by kernel_rfl) ?_
  refine wpAny_go 128 0 [0, 1, 2, 6] 71 8 (by kernel_rfl) (by kernel_rfl) (fun _ _ _ _ _ h => h) (by kernel_rfl) (by rfl) (by rfl) (by kernel_rfl) ?_
  simp only [List.map_cons, List.map_nil, List.getD_cons_succ, List.getD_cons_zero]
  go_wp2_with fail
  change wpAnyM _ _ _ _ _ _ _ _ _ _
  refine wpAny_reads 128 71 [4, 5] 119 6 (by kernel_rfl) (by kernel_rfl) (fun _ _ _ _ _ h => h) (by kernel_rfl) (by rfl) (by rfl) (by kernel_rfl) ?_
  simp only [List.map_cons, List.map_nil, List.getD_cons_succ, List.getD_cons_zero]
  go_wp2_with fail
  change _ → wpAnyM _ _ _ _ _ _ _ _ _ _; intro _
  refine wpAny_takeM 3 rfl (by kernel_rfl) (by rfl : 119 ||| 2 ^ 3 = 127) (by kernel_rfl) (by kernel_rfl) (by kernel_rfl) (by kernel_rfl) (fun _ _ _ h => h) (.inr ⟨by rfl, rfl⟩) ?_
  refine wpAny_oneM 7 255 (by kernel_rfl) (by kernel_rfl) (of_decide_eq_true (by kernel_rfl)) (by rfl) ?_
  simp only [List.getD_cons_succ, List.getD_cons_zero]
  go_wp2_with fail
  refine ⟨fun _ => hE, ?_⟩
  refine wpAny_go 128 255 [8, 9, 10, 11] 4095 0 (by kernel_rfl) (by kernel_rfl) (fun _ _ _ _ _ h => h) (by kernel_rfl) (by rfl) (by rfl) (by kernel_rfl) ?_
  simp only [List.map_cons, List.map_nil, List.getD_cons_succ, List.getD_cons_zero]
  go_wp2_with fail
  change wpAnyM _ _ _ _ _ _ _ _ _ _
  refine wpAny_endM (by kernel_rfl) (by kernel_rfl) ?_
  go_wp2_with fail
  all_goals go_ret
  all_goals exact ⟨rfl, hB⟩

set_option maxRecDepth 100000 in
set_option maxHeartbeats 2000000 in
theorem rafits_more (v : Value) (a : La) (w : World) (h : LaIs false w 0 w.heap.size v a) (n : Int) (hf : ¬ n < 1) (hcap : 1 ≤ a.cap ∧ a.cap ≤ 20)  : Calls Try.prog 30 #[v, .int .i64 n] w
    fun y w' => y = .returned (.bool (decide (n ≤ a.cap - (La.cnt 0 a.l : Int)))) ∧ Below w.heap.size w w' := by
  obtain ⟨m, hmm⟩ : ∃ m : Nat, La.cnt 0 a.l = m := ⟨_, rfl⟩
  have hml : m ≤ a.l.length := hmm ▸ La.cnt_le 0 a.l
  rw [hmm]
  have HN := Lib.hid hmm; clear hmm
  obtain ⟨A, c, rfl, h1⟩ := h
  have hl := h1.len_le
  go_enter Try.func30, Try.ntmps30
  go_upto_region 1 with fail
  refine name_wp fun W0 hW0 => ?_
  have bx : Box W0 w.heap.size #[.bool a.fifo, .int .i64 a.cap, .slice A a.l.length c] 28 := hW0 ▸ Box.at' _ _ rfl
  have hB : Below w.heap.size w W0 := hW0 ▸ (Below.refl _ _).alloc (Nat.le_refl _) _
  clear hW0
  have hls : LaIs false W0 0 W0.heap.size (.agg #[.bool a.fifo, .int .i64 a.cap, .slice A a.l.length c]) a := ⟨A, c, rfl, (h1.below hB (Nat.le_refl _)).widen (Nat.le_refl 0) hB.size⟩
  clear h1
  obtain ⟨d0, d1, d2⟩ := three_cells bx
  clear d0 d1 d2
  replace bx := bx.next ((Below.refl _ _).drew)
  replace hls := hls.next ((Below.refl _ _).drew)
  replace hB := hB.drew
  have hE := Ext.refl (W0.drew)
  refine region_go 128 (by kernel_rfl) ?_
  obtain ⟨d0, d1, d2⟩ := three_cells bx
  refine wpAny_go 128 0 [0, 1, 2, 6] 71 8 (by kernel_rfl) (by kernel_rfl) (fun _ _ _ _ _ h => h) (by kernel_rfl) (by rfl) (by rfl) (by kernel_rfl) ?_
  simp only [List.map_cons, List.map_nil, List.getD_cons_succ, List.getD_cons_zero]
  go_wp2_with fail
  change wpAnyM _ _ _ _ _ _ _ _ _ _
  refine wpAny_reads 128 71 [4, 5] 119 6 (by kernel_rfl) (by kernel_rfl) (fun _ _ _ _ _ h => h) (by kernel_rfl) (by rfl) (by rfl) (by kernel_rfl) ?_
  simp only [List.map_cons, List.map_nil, List.getD_cons_succ, List.getD_cons_zero]
  go_wp2_with fail
  change _ → wpAnyM _ _ _ _ _ _ _ _ _ _; intro _
  clear d0 d1 d2
  refine wpAny_takeM 3 rfl (by kernel_rfl) (by rfl : 119 ||| 2 ^ 3 = 127) (by kernel_rfl) (by kernel_rfl) (by kernel_rfl) (by kernel_rfl) (fun _ _ _ h => h) (.inl ⟨by rfl, fun w => by (go_simp; try with_reducible rfl)⟩) ?_
  refine wpAny_oneM 7 255 (by kernel_rfl) (by kernel_rfl) (of_decide_eq_true (by kernel_rfl)) (by rfl) ?_
  simp only [List.getD_cons_succ, List.getD_cons_zero]
  go_wp2_with fail
  refine (racount_any _ a 0 _ hls).mono ?_
  rintro e w1 ⟨rfl, hb⟩
  replace bx := bx.next hb
  replace hls := hls.next hb
  replace hE := hE.trans (Ext.below hb (Nat.le_refl _))
  replace hB := hB.trans (hb.mono hB.size)
  clear hb
  rw [HN.out]
  go_wp2_with fail
  refine ⟨fun _ => hE, ?_⟩
  refine wpAny_go 128 255 [8, 9, 10, 11] 4095 0 (by kernel_rfl) (by kernel_rfl) (fun _ _ _ _ _ h => h) (by kernel_rfl) (by rfl) (by rfl) (by kernel_rfl) ?_
  simp only [List.map_cons, List.map_nil, List.getD_cons_succ, List.getD_cons_zero]
  go_wp2_with fail
  change wpAnyM _ _ _ _ _ _ _ _ _ _
  refine wpAny_endM (by kernel_rfl) (by kernel_rfl) ?_
  go_wp2_with fail
  all_goals go_ret
  all_goals exact ⟨rfl, hB⟩

set_option maxRecDepth 100000 in
set_option maxHeartbeats 2000000 in
theorem lafits_few (v : Value) (a : La) (w : World) (h : LaIs false w 0 w.heap.size v a) (n : Int) (hf : n < 1)  : Calls Try.prog 29 #[v, .int .i64 n] w
    fun y w' => y = .returned (.bool true) ∧ Below w.heap.size w w' := by
  obtain ⟨A, c, rfl, h1⟩ := h
  have hl := h1.len_le
  go_enter Try.func29, Try.ntmps29
  go_upto_region 1 with fail
  refine name_wp fun W0 hW0 => ?_
  have bx : Box W0 w.heap.size #[.bool a.fifo, .int .i64 a.cap, .slice A a.l.length c] 25 := hW0 ▸ Box.at' _ _ rfl
  have hB : Below w.heap.size w W0 := hW0 ▸ (Below.refl _ _).alloc (Nat.le_refl _) _
  clear hW0
  have hls : LaIs false W0 0 W0.heap.size (.agg #[.bool a.fifo, .int .i64 a.cap, .slice A a.l.length c]) a := ⟨A, c, rfl, (h1.below hB (Nat.le_refl _)).widen (Nat.le_refl 0) hB.size⟩
  clear h1
  obtain ⟨d0, d1, d2⟩ := three_cells bx
  clear d0 d1 d2
  replace bx := bx.next ((Below.refl _ _).drew)
  replace hls := hls.next ((Below.refl _ _).drew)
  replace hB := hB.drew
  have hE := Ext.refl (W0.drew)
  refine region_go 128 (by kernel_rfl) ?_
  refine wpAny_go 128 0 [0, 1, 2, 6] 71 8 (by kernel_rfl) (by kernel_rfl) (fun _ _ _ _ _ h => h) (by kernel_rfl) (by rfl) (by rfl) (by kernel_rfl) ?_
  simp only [List.map_cons, List.map_nil, List.getD_cons_succ, List.getD_cons_zero]
  go_wp2_with fail
  change wpAnyM _ _ _ _ _ _ _ _ _ _
  refine wpAny_reads 128 71 [4, 5] 119 6 (by kernel_rfl) (by kernel_rfl) (fun _ _ _ _ _ h => h) (by kernel_rfl) (by rfl) (by rfl) (by kernel_rfl) ?_
  simp only [List.map_cons, List.map_nil, List.getD_cons_succ, List.getD_cons_zero]
  go_wp2_with fail
  change _ → wpAnyM _ _ _ _ _ _ _ _ _ _; intro _
  refine wpAny_takeM 3 rfl (by kernel_rfl) (by rfl : 119 ||| 2 ^ 3 = 127) (by kernel_rfl) (by kernel_rfl) (by kernel_rfl) (by kernel_rfl) (fun _ _ _ h => h) (.inr ⟨by rfl, rfl⟩) ?_
  refine wpAny_oneM 7 255 (by kernel_rfl) (by kernel_rfl) (of_decide_eq_true (by kernel_rfl)) (by rfl) ?_
  simp only [List.getD_cons_succ, List.getD_cons_zero]
  go_wp2_with fail
  refine ⟨fun _ => hE, ?_⟩
  refine wpAny_go 128 255 [8, 9, 10, 11] 4095 0 (by kernel_rfl) (by kernel_rfl) (fun _ _ _ _ _ h => h) (by kernel_rfl) (by rfl) (by rfl) (by kernel_rfl) ?_
  simp only [List.map_cons, List.map_nil, List.getD_cons_succ, List.getD_cons_zero]
  go_wp2_with fail
  change wpAnyM _ _ _ _ _ _ _ _ _ _
  refine wpAny_endM (by kernel_rfl) (by kernel_rfl) ?_
  go_wp2_with fail
  all_goals go_ret
  all_goals exact ⟨rfl, hB⟩

set_option maxRecDepth 100000 in
set_option maxHeartbeats 2000000 in
theorem lafits_more (v : Value) (a : La) (w : World) (h : LaIs false w 0 w.heap.size v a) (n : Int) (hf : ¬ n < 1) (hcap : 1 ≤ a.cap ∧ a.cap ≤ 20) (hkd : kinded a.l) (hn : a.l.length ≤ 1000000) : Calls Try.prog 29 #[v, .int .i64 n] w
    fun y w' => y = .returned (.bool (decide (n ≤ a.cap - (La.cnt 0 a.l : Int)))) ∧ Below w.heap.size w w' := by
  obtain ⟨m, hmm⟩ : ∃ m : Nat, La.cnt 0 a.l = m := ⟨_, rfl⟩
  have hml : m ≤ a.l.length := hmm ▸ La.cnt_le 0 a.l
  rw [hmm]
  have HN := Lib.hid hmm; clear hmm
  obtain ⟨A, c, rfl, h1⟩ := h
  have hl := h1.len_le
  go_enter Try.func29, Try.ntmps29
  go_upto_region 1 with fail
  refine name_wp fun W0 hW0 => ?_
  have bx : Box W0 w.heap.size #[.bool a.fifo, .int .i64 a.cap, .slice A a.l.length c] 25 := hW0 ▸ Box.at' _ _ rfl
  have hB : Below w.heap.size w W0 := hW0 ▸ (Below.refl _ _).alloc (Nat.le_refl _) _
  clear hW0
  have hls : LaIs false W0 0 W0.heap.size (.agg #[.bool a.fifo, .int .i64 a.cap, .slice A a.l.length c]) a := ⟨A, c, rfl, (h1.below hB (Nat.le_refl _)).widen (Nat.le_refl 0) hB.size⟩
  clear h1
  obtain ⟨d0, d1, d2⟩ := three_cells bx
  clear d0 d1 d2
  replace bx := bx.next ((Below.refl _ _).drew)
  replace hls := hls.next ((Below.refl _ _).drew)
  replace hB := hB.drew
  have hE := Ext.refl (W0.drew)
  refine region_go 128 (by kernel_rfl) ?_
  obtain ⟨d0, d1, d2⟩ := three_cells bx
  refine wpAny_go 128 0 [0, 1, 2, 6] 71 8 (by kernel_rfl) (by kernel_rfl) (fun _ _ _ _ _ h => h) (by kernel_rfl) (by rfl) (by rfl) (by kernel_rfl) ?_
  simp only [List.map_cons, List.map_nil, List.getD_cons_succ, List.getD_cons_zero]
  go_wp2_with fail
  change wpAnyM _ _ _ _ _ _ _ _ _ _
  refine wpAny_reads 128 71 [4, 5] 119 6 (by kernel_rfl) (by kernel_rfl) (fun _ _ _ _ _ h => h) (by kernel_rfl) (by rfl) (by rfl) (by kernel_rfl) ?_
  simp only [List.map_cons, List.map_nil, List.getD_cons_succ, List.getD_cons_zero]
  go_wp2_with fail
  change _ → wpAnyM _ _ _ _ _ _ _ _ _ _; intro _
  clear d0 d1 d2
  refine wpAny_takeM 3 rfl (by kernel_rfl) (by rfl : 119 ||| 2 ^ 3 = 127) (by kernel_rfl) (by kernel_rfl) (by kernel_rfl) (by kernel_rfl) (fun _ _ _ h => h) (.inl ⟨by rfl, fun w => by (go_simp; try with_reducible rfl)⟩) ?_
  refine wpAny_oneM 7 255 (by kernel_rfl) (by kernel_rfl) (of_decide_eq_true (by kernel_rfl)) (by rfl) ?_
  simp only [List.getD_cons_succ, List.getD_cons_zero]
  go_wp2_with fail
  refine (laapps_any _ a _ hls hkd hn).mono ?_
  rintro e w1 ⟨rfl, hb⟩
  replace bx := bx.next hb
  replace hls := hls.next hb
  replace hE := hE.trans (Ext.below hb (Nat.le_refl _))
  replace hB := hB.trans (hb.mono hB.size)
  clear hb
  rw [HN.out]
  go_wp2_with fail
  refine ⟨fun _ => hE, ?_⟩
  refine wpAny_go 128 255 [8, 9, 10, 11] 4095 0 (by kernel_rfl) (by kernel_rfl) (fun _ _ _ _ _ h => h) (by kernel_rfl) (by rfl) (by rfl) (by kernel_rfl) ?_
  simp only [List.map_cons, List.map_nil, List.getD_cons_succ, List.getD_cons_zero]
  go_wp2_with fail
  change wpAnyM _ _ _ _ _ _ _ _ _ _
  refine wpAny_endM (by kernel_rfl) (by kernel_rfl) ?_
  go_wp2_with fail
  all_goals go_ret
  all_goals exact ⟨rfl, hB⟩

theorem rafits_any (v : Value) (a : La) (w : World) (h : LaIs false w 0 w.heap.size v a) (n : Int) (hcap : 1 ≤ a.cap ∧ a.cap ≤ 20)  : Calls Try.prog 30 #[v, .int .i64 n] w
    fun y w' => y = .returned (.bool (La.fits a n)) ∧ Below w.heap.size w w' := by
  unfold La.fits
  by_cases hf : n < 1
  · rw [decide_eq_true hf, Bool.true_or]
    exact rafits_few v a w h n hf
  · rw [decide_eq_false hf, Bool.false_or]
    exact rafits_more v a w h n hf hcap 

theorem lafits_any (v : Value) (a : La) (w : World) (h : LaIs false w 0 w.heap.size v a) (n : Int) (hcap : 1 ≤ a.cap ∧ a.cap ≤ 20) (hkd : kinded a.l) (hn : a.l.length ≤ 1000000) : Calls Try.prog 29 #[v, .int .i64 n] w
    fun y w' => y = .returned (.bool (La.fits a n)) ∧ Below w.heap.size w w' := by
  unfold La.fits
  by_cases hf : n < 1
  · rw [decide_eq_true hf, Bool.true_or]
    exact lafits_few v a w h n hf
  · rw [decide_eq_false hf, Bool.false_or]
    exact lafits_more v a w h n hf hcap hkd hn
end Go.Proofs.Ytkkbblpofhenpaa

/- The document's Same of lanes; the messages of lanes. -/
namespace Go.Proofs.Ytkkbblpofhenpaa
open Go.RowKit

theorem Try.infoMsg1 : (Try.prog.info? 33).map (fun i => (i.zero, i.size, i.bytes)) = some (some (.agg #[.int .i64 0, .int .i64 0]), 2, 16) := by kernel_rfl
theorem La.same_yes {a b : La} (h1 : a.fifo = b.fifo) (h2 : a.cap = b.cap) : decide (a = b) = decide (a.l = b.l) := by
  obtain ⟨f, c, l⟩ := a
  obtain ⟨f', c', l'⟩ := b
  dsimp only at h1 h2 ⊢
  subst h1 h2
  rw [decide_eq_decide]
  simp
def La.msgsL (l : List Fr) : List (Int × Int) := (l.filter fun f => f.kind == 0).map fun f => (f.seq, f.letter)
theorem La.msgs_yes {l : List Fr} {j : Nat} {f : Fr} (hx : l[j]? = some f) (h : f.kind = 0) : La.msgsL (l.take (j + 1)) = La.msgsL (l.take j) ++ [(f.seq, f.letter)] := by
  unfold La.msgsL
  rw [Pc.take_next hx, List.filter_append, List.map_append]
  simp [h]
theorem La.msgs_no {l : List Fr} {j : Nat} {f : Fr} (hx : l[j]? = some f) (h : f.kind ≠ 0) : La.msgsL (l.take (j + 1)) = La.msgsL (l.take j) := by
  unfold La.msgsL
  rw [Pc.take_next hx, List.filter_append, List.map_append]
  simp [h]
theorem La.msgs_len (l : List Fr) : (La.msgsL l).length ≤ l.length := by unfold La.msgsL; rw [List.length_map]; exact List.length_filter_le _ _

set_option maxRecDepth 100000 in
set_option maxHeartbeats 2000000 in
theorem rasame_y (v u : Value) (a b : La) (w : World) (h : LaIs false w 0 w.heap.size v a) (h' : LaIs false w 0 w.heap.size u b) (hf : a.fifo = b.fifo) (hc : a.cap = b.cap) : Calls Try.prog 25 #[v, u] w
    fun y w' => y = .returned (.bool (decide (a = b))) ∧ Below w.heap.size w w' := by
  obtain ⟨A, ac, rfl, h1⟩ := h
  obtain ⟨B, bc, rfl, h2⟩ := h'
  obtain ⟨d, hd⟩ : ∃ d, decide (a = b) = d := ⟨_, rfl⟩
  rw [La.same_yes hf hc] at hd
  have hd2 := hd
  obtain ⟨e, he⟩ : ∃ e, decide (a = b) = e := ⟨_, rfl⟩
  have hde : e = d := by rw [← he, ← hd, La.same_yes hf hc]
  rw [he, hde]
  have HD := Lib.hid hd; clear hd hd2 he hde
  have b1 : (a.fifo == b.fifo) = true := by simpa using hf
  have b3 : (a.cap == b.cap) = true := by simpa using hc
  clear hf hc
  go_enter Try.func25, Try.ntmps25
  go_upto_region 1 with fail
  refine name_wp fun W0 hW0 => ?_
  have bx : Box W0 w.heap.size #[.bool a.fifo, .int .i64 a.cap, .slice A a.l.length ac] 28 := hW0 ▸ (Box.at' _ _ rfl).alloc _
  have b2 : Box W0 (w.heap.size + 1) #[.bool b.fifo, .int .i64 b.cap, .slice B b.l.length bc] 28 := hW0 ▸ Box.at' _ _ (by simp)
  have hB : Below w.heap.size w W0 := hW0 ▸ ((Below.refl _ _).alloc (Nat.le_refl _) _).alloc (by simp) _
  clear hW0
  replace h1 := (h1.below hB (Nat.le_refl _)).widen (Nat.le_refl 0) hB.size
  replace h2 := (h2.below hB (Nat.le_refl _)).widen (Nat.le_refl 0) hB.size
  obtain ⟨d0, d1, d2⟩ := three_cells bx
  obtain ⟨g0, g1, g2⟩ := three_cells b2
  go_wp2_with fail
  refine (rfrall_any _ _ a.l b.l _ h1 h2).mono ?_
  rw [HD.out]
  rintro z w1 ⟨rfl, hb⟩
  go_wp2_with fail
  go_ret
  exact ⟨rfl, hB.trans (hb.mono hB.size)⟩

set_option maxRecDepth 100000 in
set_option maxHeartbeats 2000000 in
theorem rasame_f (v u : Value) (a b : La) (w : World) (h : LaIs false w 0 w.heap.size v a) (h' : LaIs false w 0 w.heap.size u b) (hne : a.fifo ≠ b.fifo) : Calls Try.prog 25 #[v, u] w
    fun y w' => y = .returned (.bool (decide (a = b))) ∧ Below w.heap.size w w' := by
  obtain ⟨A, ac, rfl, h1⟩ := h
  obtain ⟨B, bc, rfl, h2⟩ := h'
  rw [decide_eq_false (show ¬ a = b from fun e => hne (by rw [e]))]
  have b1 : (a.fifo == b.fifo) = false := by simpa using hne
  clear hne
  go_enter Try.func25, Try.ntmps25
  go_upto_region 1 with fail
  refine name_wp fun W0 hW0 => ?_
  have bx : Box W0 w.heap.size #[.bool a.fifo, .int .i64 a.cap, .slice A a.l.length ac] 28 := hW0 ▸ (Box.at' _ _ rfl).alloc _
  have b2 : Box W0 (w.heap.size + 1) #[.bool b.fifo, .int .i64 b.cap, .slice B b.l.length bc] 28 := hW0 ▸ Box.at' _ _ (by simp)
  have hB : Below w.heap.size w W0 := hW0 ▸ ((Below.refl _ _).alloc (Nat.le_refl _) _).alloc (by simp) _
  clear hW0
  replace h1 := (h1.below hB (Nat.le_refl _)).widen (Nat.le_refl 0) hB.size
  replace h2 := (h2.below hB (Nat.le_refl _)).widen (Nat.le_refl 0) hB.size
  obtain ⟨d0, d1, d2⟩ := three_cells bx
  obtain ⟨g0, g1, g2⟩ := three_cells b2
  go_wp2_with fail
  go_ret
  exact ⟨rfl, hB⟩

set_option maxRecDepth 100000 in
set_option maxHeartbeats 2000000 in
theorem rasame_c (v u : Value) (a b : La) (w : World) (h : LaIs false w 0 w.heap.size v a) (h' : LaIs false w 0 w.heap.size u b) (hf : a.fifo = b.fifo) (hne : a.cap ≠ b.cap) : Calls Try.prog 25 #[v, u] w
    fun y w' => y = .returned (.bool (decide (a = b))) ∧ Below w.heap.size w w' := by
  obtain ⟨A, ac, rfl, h1⟩ := h
  obtain ⟨B, bc, rfl, h2⟩ := h'
  rw [decide_eq_false (show ¬ a = b from fun e => hne (by rw [e]))]
  have b1 : (a.fifo == b.fifo) = true := by simpa using hf
  have b3 : (a.cap == b.cap) = false := by simpa using hne
  clear hf hne
  go_enter Try.func25, Try.ntmps25
  go_upto_region 1 with fail
  refine name_wp fun W0 hW0 => ?_
  have bx : Box W0 w.heap.size #[.bool a.fifo, .int .i64 a.cap, .slice A a.l.length ac] 28 := hW0 ▸ (Box.at' _ _ rfl).alloc _
  have b2 : Box W0 (w.heap.size + 1) #[.bool b.fifo, .int .i64 b.cap, .slice B b.l.length bc] 28 := hW0 ▸ Box.at' _ _ (by simp)
  have hB : Below w.heap.size w W0 := hW0 ▸ ((Below.refl _ _).alloc (Nat.le_refl _) _).alloc (by simp) _
  clear hW0
  replace h1 := (h1.below hB (Nat.le_refl _)).widen (Nat.le_refl 0) hB.size
  replace h2 := (h2.below hB (Nat.le_refl _)).widen (Nat.le_refl 0) hB.size
  obtain ⟨d0, d1, d2⟩ := three_cells bx
  obtain ⟨g0, g1, g2⟩ := three_cells b2
  go_wp2_with fail
  go_ret
  exact ⟨rfl, hB⟩

theorem rasame_any (v u : Value) (a b : La) (w : World) (h : LaIs false w 0 w.heap.size v a) (h' : LaIs false w 0 w.heap.size u b) : Calls Try.prog 25 #[v, u] w
    fun y w' => y = .returned (.bool (decide (a = b))) ∧ Below w.heap.size w w' := by
  by_cases hf : a.fifo = b.fifo
  · by_cases hc : a.cap = b.cap
    · exact rasame_y v u a b w h h' hf hc
    · exact rasame_c v u a b w h h' hf hc
  · exact rasame_f v u a b w h h' hf

set_option maxRecDepth 100000 in
set_option maxHeartbeats 2000000 in
theorem lamsgs_any (v : Value) (a : La) (w : World) (h : LaIs false w 0 w.heap.size v a) (hn : a.l.length ≤ 1000000) : Calls Try.prog 32 #[v] w
    fun y w' => (∃ u, y = .returned u ∧ SliceIs Rep.msg true w' w.heap.size w'.heap.size u (La.msgs a)) ∧ Below w.heap.size w w' := by
  obtain ⟨A, c, rfl, h1⟩ := h
  have hl := h1.len_le
  go_enter Try.func32, Try.ntmps32
  go_upto_region 1 with fail
  refine name_wp fun W0 hW0 => ?_
  have bx : Box W0 w.heap.size #[.bool a.fifo, .int .i64 a.cap, .slice A a.l.length c] 25 := hW0 ▸ Box.at' _ _ rfl
  have hB : Below w.heap.size w W0 := hW0 ▸ (Below.refl _ _).alloc (Nat.le_refl _) _
  clear hW0
  have hs := h1.at'
  have HBX := Lib.hid bx; have HB0 := Lib.hid hB; clear h1 hB
  obtain ⟨d0, d1, d2⟩ := three_cells bx
  have hbl := bx.lt
  go_wp2_with fail
  clear bx hbl d0 d1 d2
  go_loopg [3, 9] a.l.length (fun m u i wr => ∃ j : Nat, i = .int .i64 (j : Int) ∧ j ≤ a.l.length ∧ m = a.l.length - j ∧ Acc Rep.msg 33 W0.heap.size wr u (La.msgsL (a.l.take j)) ∧ Below W0.heap.size W0 wr)
  case atStart => exact ⟨0, rfl, by omega, by omega, Acc.nil _ _ _ _, Below.refl _ _⟩
  case round =>
    obtain ⟨j, rfl, hj, hm, hacc, hb⟩ := hrel
    have HM := Lib.hid hm; clear hm
    have bx := HBX.out.next hb
    obtain ⟨d0, d1, d2⟩ := three_cells bx
    obtain ⟨ms, hms⟩ : ∃ ms, La.msgsL (a.l.take j) = ms := ⟨_, rfl⟩
    have hml : ms.length ≤ 1000000 := by rw [← hms]; have h1 := La.msgs_len (a.l.take j); rw [List.length_take] at h1; omega
    rw [hms] at hacc
    have HMS := Lib.hid hms; clear hms
    obtain ⟨UA, uc, hv, _, _, _⟩ := id hacc.slice
    obtain ⟨n, hn2⟩ : ∃ n, ms.length = n := ⟨_, rfl⟩
    rw [hn2] at hv
    subst hv
    have HN2 := Lib.hid hn2; clear hn2
    have hwr := hb.size
    by_cases hlt : j < a.l.length
    ·
      obtain ⟨x, hx⟩ := Pc.get_at hlt
      have hbw := HB0.out.trans (hb.mono HB0.out.size)
      obtain ⟨g, o, cA, cB, ck, cl, he, _, hg, hc, _⟩ := (hs.below hbw (Nat.le_refl _)).frame hx
      subst he
      have c0 := hc 0 _ rfl
      have c1 := hc 1 _ rfl
      have c2 := hc 2 _ rfl
      have c3 := hc 3 _ rfl
      have c4 := hc 4 _ rfl
      have c5 := hc 5 _ rfl
      have c6 := hc 6 _ rfl
      have c7 := hc 7 _ rfl
      have c8 := hc 8 _ rfl
      simp only [Nat.add_zero] at c0
      have HX := Lib.hid hx; clear hx hc hs
      have hgl : g < wr.heap.size := Nat.lt_of_lt_of_le hg hbw.size
      have hbl := bx.lt
      clear hbw
      by_cases hk : x.kind = 0
      ·
        have HKK := Lib.hid hk
        have hkb : (x.kind == 0) = true := by simpa using hk
        clear hk
        go_wp2_with (at_builtin; refine wpList_accB (r := Rep.msg) (w0 := wr) (y := (x.seq, x.letter)) rfl (.tmp 16) (.tmp 19) 62 rfl W0.heap.size 33 Try.infoMsg1 Try.underlying62 rfl (by omega) (.slice UA n uc) rfl hacc (fun b _ h2 => heap_alloc_old _ _ h2) (by simp) hwr 1 _ [.int .i64 x.seq, .int .i64 x.letter] rfl (by simp) rfl hml ?_; intro v9 w9 hacc9 hgr9 hb9)
        rw [← HMS.out, ← La.msgs_yes HX.out HKK.out] at hacc9
        go_roundg (a.l.length - (j + 1))
        case rel => exact ⟨j + 1, by simp, by omega, rfl, hacc9, (hb.alloc hb.size _).trans hb9⟩
        case measure => have := HM.out; omega
      ·
        have HKK := Lib.hid hk
        have hkb : (x.kind == 0) = false := by simpa using hk
        clear hk
        go_wp2_with fail
        go_roundg (a.l.length - (j + 1))
        case rel => exact ⟨j + 1, by simp, by omega, rfl, by rw [La.msgs_no HX.out HKK.out, HMS.out]; exact hacc.below ((Below.refl _ _).alloc (Nat.le_refl _) _), hb.alloc hb.size _⟩
        case measure => have := HM.out; omega
    ·
      have hmm := HMS.out
      rw [List.take_of_length_le (by omega)] at hmm
      have HM2 := Lib.hid hmm; have HAC := Lib.hid hacc; clear hmm hacc
      have hbl := bx.lt
      go_wp2_with fail
      go_ret
      exact ⟨⟨_, rfl, by rw [show La.msgs a = ms from HM2.out]; exact HAC.out.slice.widen HB0.out.size (Nat.le_refl _)⟩, HB0.out.trans (hb.mono HB0.out.size)⟩

set_option maxRecDepth 100000 in
set_option maxHeartbeats 2000000 in
theorem ramsgs_any (v : Value) (a : La) (w : World) (h : LaIs false w 0 w.heap.size v a) (hn : a.l.length ≤ 1000000) : Calls Try.prog 33 #[v] w
    fun y w' => (∃ u, y = .returned u ∧ SliceIs Rep.msg true w' w.heap.size w'.heap.size u (La.msgs a)) ∧ Below w.heap.size w w' := by
  obtain ⟨A, c, rfl, h1⟩ := h
  have hl := h1.len_le
  go_enter Try.func33, Try.ntmps33
  go_upto_region 1 with fail
  refine name_wp fun W0 hW0 => ?_
  have bx : Box W0 w.heap.size #[.bool a.fifo, .int .i64 a.cap, .slice A a.l.length c] 28 := hW0 ▸ Box.at' _ _ rfl
  have hB : Below w.heap.size w W0 := hW0 ▸ (Below.refl _ _).alloc (Nat.le_refl _) _
  clear hW0
  have hs := h1.at'
  have HBX := Lib.hid bx; have HB0 := Lib.hid hB; clear h1 hB
  obtain ⟨d0, d1, d2⟩ := three_cells bx
  have hbl := bx.lt
  go_wp2_with fail
  clear bx hbl d0 d1 d2
  go_loopg [3, 4] a.l.length (fun m u i wr => ∃ j : Nat, i = .int .i64 (j : Int) ∧ j ≤ a.l.length ∧ m = a.l.length - j ∧ Acc Rep.msg 33 W0.heap.size wr u (La.msgsL (a.l.take j)) ∧ Below W0.heap.size W0 wr)
  case atStart => exact ⟨0, rfl, by omega, by omega, Acc.empty _ _ _, (Below.refl _ _).alloc (Nat.le_refl _) _⟩
  case round =>
    obtain ⟨j, rfl, hj, hm, hacc, hb⟩ := hrel
    have HM := Lib.hid hm; clear hm
    have bx := HBX.out.next hb
    obtain ⟨d0, d1, d2⟩ := three_cells bx
    obtain ⟨ms, hms⟩ : ∃ ms, La.msgsL (a.l.take j) = ms := ⟨_, rfl⟩
    have hml : ms.length ≤ 1000000 := by rw [← hms]; have h1 := La.msgs_len (a.l.take j); rw [List.length_take] at h1; omega
    rw [hms] at hacc
    have HMS := Lib.hid hms; clear hms
    obtain ⟨UA, uc, hv, _, _, _⟩ := id hacc.slice
    obtain ⟨n, hn2⟩ : ∃ n, ms.length = n := ⟨_, rfl⟩
    rw [hn2] at hv
    subst hv
    have HN2 := Lib.hid hn2; clear hn2
    have hwr := hb.size
    by_cases hlt : j < a.l.length
    ·
      obtain ⟨x, hx⟩ := Pc.get_at hlt
      have hbw := HB0.out.trans (hb.mono HB0.out.size)
      obtain ⟨g, o, cA, cB, ck, cl, he, _, hg, hc, _⟩ := (hs.below hbw (Nat.le_refl _)).frame hx
      subst he
      have c0 := hc 0 _ rfl
      have c1 := hc 1 _ rfl
      have c2 := hc 2 _ rfl
      have c3 := hc 3 _ rfl
      have c4 := hc 4 _ rfl
      have c5 := hc 5 _ rfl
      have c6 := hc 6 _ rfl
      have c7 := hc 7 _ rfl
      have c8 := hc 8 _ rfl
      simp only [Nat.add_zero] at c0
      have HX := Lib.hid hx; clear hx hc hs
      have hgl : g < wr.heap.size := Nat.lt_of_lt_of_le hg hbw.size
      have hbl := bx.lt
      clear hbw
      by_cases hk : x.kind = 0
      ·
        have HKK := Lib.hid hk
        have hkb : (x.kind == 0) = true := by simpa using hk
        clear hk
        go_wp2_with (at_builtin; refine wpList_accB (r := Rep.msg) (w0 := wr) (y := (x.seq, x.letter)) rfl (.tmp 20) (.tmp 27) 62 rfl W0.heap.size 33 Try.infoMsg1 Try.underlying62 rfl (by omega) (.slice UA n uc) rfl hacc (fun _ _ _ => rfl) (Nat.le_refl _) hwr 1 _ [.int .i64 x.seq, .int .i64 x.letter] rfl (by simp) rfl hml ?_; intro v9 w9 hacc9 hgr9 hb9)
        rw [← HMS.out, ← La.msgs_yes HX.out HKK.out] at hacc9
        go_roundg (a.l.length - (j + 1))
        case rel => exact ⟨j + 1, by simp, by omega, rfl, hacc9, hb.trans hb9⟩
        case measure => have := HM.out; omega
      ·
        have HKK := Lib.hid hk
        have hkb : (x.kind == 0) = false := by simpa using hk
        clear hk
        go_wp2_with fail
        go_roundg (a.l.length - (j + 1))
        case rel => exact ⟨j + 1, by simp, by omega, rfl, by rw [La.msgs_no HX.out HKK.out, HMS.out]; exact hacc, hb⟩
        case measure => have := HM.out; omega
    ·
      have hmm := HMS.out
      rw [List.take_of_length_le (by omega)] at hmm
      have HM2 := Lib.hid hmm; have HAC := Lib.hid hacc; clear hmm hacc
      have hbl := bx.lt
      go_wp2_with fail
      go_ret
      exact ⟨⟨_, rfl, by rw [show La.msgs a = ms from HM2.out]; exact HAC.out.slice.widen HB0.out.size (Nat.le_refl _)⟩, HB0.out.trans (hb.mono HB0.out.size)⟩
end Go.Proofs.Ytkkbblpofhenpaa
