/- Lemmas, walks and contracts that the statements of this seat are proved by. -/
import Derived.Test.YtdfgnmdofjhnkaaG4
import Derived.Lib.AppendZerosOnto
import Derived.Test.YtdfgnmdofjhnkaaG16
import Derived.Test.YtdfgnmdofjhnkaaG5
import Derived.Test.YtdfgnmdofjhnkaaG15
/- append(s, make([]T, k)...) onto a row of the call's own, whether there is room or not. Nothing of the program. -/
namespace Go.Proofs.Ytdfgnmdofjhnkaa
open Go.RowKit

theorem run_append_room_zeros {P : Program} (w : World) (t tn ty e : TypeId) (i : TypeInfo) (z : Value) (kq kn : IntKind) (ht : P.underlying t = some (.slice e)) (htn : P.underlying tn = some (.int kn)) (hi : P.info? e = some i) (hz : i.zero = some z) (hzs : z.cells.size = i.size) (hs : 0 < i.size)
    (g sLen sCap : Nat) (cur : Array Value) (hg : w.heap[g]? = some (.cells cur e (0, 0))) (k : Nat) (h0 : 0 < k) (h1 : ∀ u ∈ (Builtin.zeroCells z.cells k).toList, u.oneCell' = true)
    (hroom : sLen + k ≤ sCap) (hfit : sLen * i.size + k * i.size ≤ cur.size) (h63 : (k : Int) ≤ 9223372036854775807) (h48 : k * i.bytes ≤ 281474976710656) :
    (Builtin.append_ #[t, tn] ty #[.slice (some ⟨g, 0, none⟩) sLen sCap, .int kq k]).run P w =
      .ok (.slice (some ⟨g, 0, none⟩) (sLen + k) sCap) (w.setRow g (cur.toList.take (sLen * i.size) ++ (Builtin.zeroCells z.cells k).toList ++ cur.toList.drop (sLen * i.size + k * i.size)).toArray) := by
  have hl : (Builtin.zeroCells z.cells k).toList.length = k * i.size := by rw [Array.length_toList, size_zeroCells, hzs]
  have hst := run_storeCells_at P g (sLen * i.size) e (Builtin.zeroCells z.cells k).toList 0 cur w hg (by rw [hl]; simpa using hfit) h1
  rw [hl] at hst
  simp only [Nat.add_zero] at hst
  have hk : k ≠ 0 := by omega
  have hw : IntKind.i64.wrap (k : Int) = k := by rw [IntKind.wrap_i64]; omega
  have h48i : ¬ (281474976710656 < (k : Int) * (i.bytes : Int)) := by
    rw [← Int.natCast_mul]
    omega
  have hneg : ¬ ((k : Int) < 0) := by omega
  have hns : ¬ (k * i.size = 0) := Nat.mul_ne_zero hk (by omega)
  simp [Builtin.append_, run_underlying ht, run_underlying htn, sizeOf, typeInfo, zeroValue, hi, hz, asInt, asIntOf, hw, hroom, hneg, hns, h48i, Addr.add_lit, hst]

theorem run_append_own_zeros {P : Program} (w : World) (base : Nat) (t tn ty e : TypeId) {z : Value} {size bytes : Nat} (kq kn : IntKind) (hinfo : (P.info? e).map (fun i => (i.zero, i.size, i.bytes)) = some (some z, size, bytes)) (ht : P.underlying t = some (.slice e)) (htn : P.underlying tn = some (.int kn))
    (hzs : z.cells.size = size) (hsz : 0 < size) (v : Value) (n : Nat) (xs : List Value) (hown : w.ownsRow base e size v n xs) (k : Nat) (h0 : 0 < k) (news : List Value) (hnew : (Builtin.zeroCells z.cells k).toList = news) (h1 : ∀ u ∈ news, u.oneCell' = true)
    (h63 : n + k ≤ maxLen) (hbytes : (n + k) * bytes ≤ 140737488355328) (hbase : base ≤ w.heap.size) :
    ∃ v' w', (Builtin.append_ #[t, tn] ty #[v, .int kq k]).run P w = .ok v' w' ∧ w'.ownsRow base e size v' (n + k) (xs ++ news) ∧ w.grownBy w' v.ownBlock ∧
      (v'.ownBlock = v.ownBlock ∨ v'.ownBlock = some w.heap.size) := by
  obtain ⟨i, hi, hz, rfl, rfl⟩ := info_parts hinfo
  subst hnew
  have hsmall : n + k ≤ 9223372036854775807 := by simp only [maxLen] at h63; omega
  have hl : (Builtin.zeroCells z.cells k).toList.length = k * i.size := by rw [Array.length_toList, size_zeroCells, hzs]
  have hlen : (xs ++ (Builtin.zeroCells z.cells k).toList).length = (n + k) * i.size := by rw [List.length_append, hown.1, hl, Nat.add_mul]
  have hkb : k * i.bytes ≤ (n + k) * i.bytes := Nat.mul_le_mul_right _ (by omega)
  have grown : ∀ (old : Nat), old < n + k → ∀ (row : Option Nat),
      (w.drew.alloc (.cells (xs.toArray ++ Builtin.zeroCells z.cells k ++ Builtin.zeroCells z.cells (grownCap w (n + k) old e - (n + k))) e)).ownsRow base e i.size
        (.slice (some ⟨w.heap.size, 0, none⟩) (n + k) (grownCap w (n + k) old e)) (n + k) (xs ++ (Builtin.zeroCells z.cells k).toList) ∧
      w.grownBy (w.drew.alloc (.cells (xs.toArray ++ Builtin.zeroCells z.cells k ++ Builtin.zeroCells z.cells (grownCap w (n + k) old e - (n + k))) e)) row := by
    intro old ho row
    have hge := grownCap_ge w (n + k) old e
    have hcm : grownCap w (n + k) old e ≤ maxLen := grownCap_le_maxLen w (n + k) old e h63
    refine ⟨⟨hlen, .inr ⟨w.heap.size, _, _, rfl, hbase, heap_alloc_new w.drew _, hge, hcm, ?_, ?_⟩⟩, ⟨rfl, rfl, rfl, by simp, fun q hq _ => heap_alloc_old w.drew _ hq⟩⟩
    · simp only [Array.size_append, List.size_toArray, size_zeroCells, hzs, hown.1, ← Nat.add_mul]
      congr 1
      omega
    · simp only [Array.toList_append, List.append_assoc]
      rw [← List.append_assoc, ← hlen]
      exact List.take_left
  rcases hown.2 with ⟨rfl, rfl⟩ | ⟨g, cap, cur, rfl, hbg, hg, hnc, hcm, hcs, htake⟩
  · have hx : xs = [] := List.eq_nil_of_length_eq_zero (by simpa using hown.1)
    subst hx
    have hr := Lib.run_append_nil_zeros (P := P) w t tn ty e i z kq kn ht htn hi hz k h0 hsz (by omega) (by omega)
    have hgr := grown 0 (by omega) (Value.ownBlock (.slice none 0 0))
    simp only [Nat.zero_add, List.nil_append, Array.empty_append] at hgr ⊢
    exact ⟨_, _, hr, hgr.1, hgr.2, .inr rfl⟩
  · by_cases hroom : n + k ≤ cap
    · have hfit : n * i.size + k * i.size ≤ cur.size := by rw [hcs, ← Nat.add_mul]; exact Nat.mul_le_mul_right _ hroom
      have hr := run_append_room_zeros (P := P) w t tn ty e i z kq kn ht htn hi hz hzs hsz g n cap cur hg k h0 h1 hroom hfit (by omega) (by omega)
      refine ⟨_, _, hr, ⟨hlen, .inr ⟨g, cap, _, rfl, hbg, setRow_heap w g cur _ e _ hg, hroom, hcm, ?_, ?_⟩⟩, ⟨rfl, rfl, rfl, by simp, fun k _ hk => setRow_other w g k _ (fun e => hk (by simp [Value.ownBlock, e]))⟩, .inl rfl⟩
      · simp only [List.size_toArray, List.length_append, List.length_take, List.length_drop, Array.length_toList, size_zeroCells, hzs]
        omega
      · rw [htake, ← hlen]
        exact List.take_left
    · have holds : ∀ j u, xs[j]? = some u → w.cell? ((⟨g, 0, none⟩ : Addr).add j) = some u := hown.cells (g := g) rfl
      have hold := run_firstCells_some (P := P) w.drew i.size n ⟨g, 0, none⟩ n cap xs hown.1 (by simpa using holds)
      have hr := Lib.run_append_grow_zeros (P := P) w t tn ty e i z kq kn ht htn hi hz (some ⟨g, 0, none⟩) n cap xs hold k h0 hsz (by omega) (by omega) (by omega) (growslice_fits (by omega) hbytes)
      have hgr := grown cap (by omega) (Value.ownBlock (.slice (some ⟨g, 0, none⟩) n cap))
      exact ⟨_, _, hr, hgr.1, hgr.2, .inr rfl⟩

section
variable {P : Program} {w : World} {ops : Array Oper} {rest : List Oper} {o : Oper} {a : Act} {Q : Exit → Act → World → Prop}
/-- The walk's step. -/
theorem wpList_append_zeros (hgd : o.guard = none) (s x : Operand) (t tn : TypeId) (ho : o.op = .call { callee := .builtin .append, args := #[s, x], argTypes := #[t, tn] })
    (base : Nat) (e : TypeId) {z : Value} {size bytes : Nat} (kq kn : IntKind) (hinfo : (P.info? e).map (fun i => (i.zero, i.size, i.bytes)) = some (some z, size, bytes)) (ht : P.underlying t = some (.slice e)) (htn : P.underlying tn = some (.int kn))
    (hzs : z.cells.size = size) (hsz : 0 < size) (v : Value) (n : Nat) (xs : List Value) (hs : a.eval s = v) (hown : w.ownsRow base e size v n xs) (k : Nat) (h0 : 0 < k) (hx : a.eval x = .int kq k) (news : List Value) (hnew : (Builtin.zeroCells z.cells k).toList = news) (h1 : ∀ u ∈ news, u.oneCell' = true)
    (h63 : n + k ≤ maxLen) (hbytes : (n + k) * bytes ≤ 140737488355328) (hbase : base ≤ w.heap.size)
    (h : ∀ v' w', w'.ownsRow base e size v' (n + k) (xs ++ news) → w.grownBy w' v.ownBlock → Below base w w' → (v'.ownBlock = v.ownBlock ∨ v'.ownBlock = some w.heap.size) → wpList P ops Q rest (a.put o.dst v') w') : wpList P ops Q (o :: rest) a w := by
  obtain ⟨v', w', hr, h2, h3, h4⟩ := run_append_own_zeros (P := P) w base t tn o.type e kq kn hinfo ht htn hzs hsz v n xs hown k h0 news hnew h1 h63 hbytes hbase
  have hb : Below base w w' := ⟨h3.os, h3.tape, h3.output, h3.size, fun q hq => h3.block q (Nat.lt_of_lt_of_le hq hbase) (fun he => by have := (hown.lt q he.symm).1; omega)⟩
  exact Lib.wpList_append_run w hgd s x t tn ho v (.int kq k) hs hx v' w' hr (h v' w' h2 h3 hb h4)
end
end Go.Proofs.Ytdfgnmdofjhnkaa

/- frame.numbers. -/
namespace Go.Proofs.Ytdfgnmdofjhnkaa
open Go.RowKit

theorem zeros5 : (Builtin.zeroCells (Value.int .i64 0).cells 5).toList = [.int .i64 0, .int .i64 0, .int .i64 0, .int .i64 0, .int .i64 0] := by kernel_rfl
theorem one5 : ∀ u ∈ [Value.int .i64 0, .int .i64 0, .int .i64 0, .int .i64 0, .int .i64 0], u.oneCell' = true := by
  intro u hu
  simp only [List.mem_cons, List.not_mem_nil, or_false, or_self] at hu
  subst hu
  rfl
theorem i64s_zeros (l : List Nat) : i64s l ++ [.int .i64 0, .int .i64 0, .int .i64 0, .int .i64 0, .int .i64 0] = ints (Pc.zs l ++ [0, 0, 0, 0, 0]) := by
  rw [i64s_ints]; simp [ints]
theorem zs_at (l : List Nat) (j : Nat) (h : j < 5) : (Pc.zs l ++ [0, 0, 0, 0, 0])[j]? = some ((Pc.zs l).getD j 0) := by
  rcases Nat.lt_or_ge j (Pc.zs l).length with h1 | h1
  · rw [List.getElem?_append_left h1, List.getD_eq_getElem?_getD, List.getElem?_eq_getElem h1]; rfl
  · rw [List.getElem?_append_right h1, List.getD_eq_getElem?_getD, List.getElem?_eq_none h1]
    have h2 : j - (Pc.zs l).length < 5 := by omega
    generalize j - (Pc.zs l).length = k at h2
    match k, h2 with
    | 0, _ => rfl
    | 1, _ => rfl
    | 2, _ => rfl
    | 3, _ => rfl
    | 4, _ => rfl
theorem SliceIs.own_ints {w : World} {B n : Nat} {g c : Nat} {L : List Int} (h : w.ownsRow B 3 1 (.slice (some ⟨g, 0, none⟩) n c) n (ints L)) (hn : L.length = n) : SliceIs Rep.int true w g (g + 1) (.slice (some ⟨g, 0, none⟩) n c) L := by
  subst hn
  exact SliceOn.of_own (r := Rep.int) h (ints_all _ _ _ _) (fun b hb => by simp only [Value.ownBlock, Option.some.injEq] at hb; subst hb; exact ⟨Nat.le_refl _, Nat.lt_succ_self _⟩)
theorem drew_block (w : World) (q : Nat) : w.drew.heap[q]? = w.heap[q]? := rfl
theorem below_set {B b i : Nat} {w0 w : World} {u : Value} (h : Below B w0 w) (hb : B ≤ b) : Below B w0 (w.setCell ⟨b, i, none⟩ u) := h.setCell hb u
theorem SliceIs.head_ {α : Type} {r : Rep α} {fr : Bool} {w : World} {lo hi n c k : Nat} {A : Option Addr} {xs : List α} (h : SliceIs r fr w lo hi (.slice A n c) xs) (hk : k ≤ xs.length) : SliceIs r fr w lo hi (.slice A k c) (xs.take k) := by
  obtain ⟨_, _, he, h1, h2, h3⟩ := h
  cases he
  exact ⟨_, _, by rw [List.length_take, Nat.min_eq_left hk], by rw [List.length_take]; omega, h2, h3.take k⟩
theorem SliceIs.tail_ {α : Type} {r : Rep α} {fr : Bool} {w : World} {lo hi n c g o k : Nat} {xs : List α} (h : SliceIs r fr w lo hi (.slice (some ⟨g, o, none⟩) n c) xs) (hk : k ≤ xs.length) :
    SliceIs r fr w lo hi (.slice (if c = k then some ⟨g, o, none⟩ else some ⟨g, o + k * r.size, none⟩) (n - k) (c - k)) (xs.drop k) := by
  obtain ⟨A, c', he, h1, h2, cells, h3, h4⟩ := h
  cases he
  refine ⟨_, _, by rw [List.length_drop], by rw [List.length_drop]; omega, by omega, cells.drop (k * r.size), Rep.all_drop k h3, fun hpos => ?_⟩
  rw [List.length_drop] at hpos
  obtain ⟨g', o', he, hS, hc⟩ := h4 (by omega)
  cases he
  refine ⟨g, o + k * r.size, by rw [if_neg (by omega)], hS, fun j u hj => ?_⟩
  rw [List.getElem?_drop] at hj
  have := hc _ _ hj
  rw [← Nat.add_assoc] at this
  exact this
theorem own_parts {w : World} {B n : Nat} {v : Value} {L : List Int} (h : w.ownsRow B 3 1 v n (ints L)) (hn : 0 < n) :
    ∃ g cap, v = .slice (some ⟨g, 0, none⟩) n cap ∧ B ≤ g ∧ g < w.heap.size ∧ n ≤ cap ∧ cap ≤ maxLen ∧ ∀ j x, L[j]? = some x → w.cell? ⟨g, j, none⟩ = some (.int .i64 x) := by
  rcases id h.2 with ⟨_, h0⟩ | ⟨g, cap, cur, rfl, hg, hh, hnc, hcm, _, _⟩
  · omega
  · refine ⟨g, cap, rfl, hg, lt_of_block hh, hnc, hcm, fun j x hx => ?_⟩
    have := h.cells (g := g) rfl j (.int .i64 x) (by simp [ints, hx])
    rw [add_at, Nat.zero_add] at this
    exact this

set_option maxRecDepth 100000 in
set_option maxHeartbeats 8000000 in
theorem frnumbers_any (B : Nat) (v : Value) (l : List Nat) (w : World) (hBw : B ≤ w.heap.size) (hl : l.length ≤ 1000000) (h : w.ownsRow B 3 1 v l.length (i64s l)) : Calls Try.prog 74 #[v] w
    fun y w' => (∃ u, y = .returned u ∧ FrIs false w' B w'.heap.size u (Fr.numF (Pc.zs l))) ∧ Below B w w' := by
  obtain ⟨z, hz⟩ : ∃ z : Nat → Int, ∀ j, z j = (Pc.zs l).getD j 0 := ⟨_, fun _ => rfl⟩
  have HZ := Lib.hid hz; clear hz
  go_enter Try.func74, Try.ntmps74
  go_upto_region 1 with fail
  refine name_wp fun W0 hW0 => ?_
  have b2 : Box W0 w.heap.size #[.int .i64 0, .int .i64 0, .int .i64 0, .int .i64 0, .slice none 0 0, .int .i64 0, .int .i64 0, .int .i64 0, .slice none 0 0] 58 := hW0 ▸ Box.at' _ _ rfl
  have hB : Below B w W0 := hW0 ▸ (Below.refl _ _).alloc hBw _
  have ho : W0.ownsRow B 3 1 v l.length (i64s l) := hW0 ▸ World.ownsRow.alloc h _
  have hw0 : W0.heap.size = w.heap.size + 1 := by rw [← hW0]; simp
  clear hW0
  have HW0 := Lib.hid hw0; have HO := Lib.hid h; clear hw0 h
  go_upto_region 2 with (at_builtin; refine wpList_append_zeros (P := Try.prog) (z := .int .i64 0) (size := 1) (bytes := 8) rfl _ _ _ _ rfl B 3 .i64 .i64 Try.infoInt Try.underlying22 Try.underlying3 rfl (by omega) v l.length (i64s l) rfl ho 5 (by omega) rfl [.int .i64 0, .int .i64 0, .int .i64 0, .int .i64 0, .int .i64 0] zeros5 one5 (by unfold maxLen; omega) (by omega) (by have := HW0.out; omega) ?_; intro v1 W1 ho1 hg1 hb1 hor)
  have b21 : Box W1 w.heap.size _ _ := (hg1.block _ b2.lt (fun he => by have := (HO.out.lt _ he.symm).2; omega)).trans b2
  replace hB := hB.trans hb1
  clear b2 hg1 hb1 ho
  have hz1 : w.heap.size < W1.heap.size := b21.lt
  have hvb : v1.ownBlock ≠ some w.heap.size := by
    intro he
    rcases hor with h1 | h1
    · rw [h1] at he; have := (HO.out.lt _ he).2; omega
    · rw [h1] at he; injection he with he; have := HW0.out; omega
  clear hor
  rw [i64s_zeros] at ho1
  obtain ⟨g, cap, rfl, hg, hgs, hcap, hcm, hc⟩ := own_parts ho1 (by omega)
  have hgw : g ≠ w.heap.size := fun he => hvb (by rw [he]; rfl)
  have HGW := Lib.hid hgw; clear hvb hgw
  have hsl := SliceIs.own_ints ho1 (by simp [Pc.zs])
  have c0 := hc 0 (z 0) (by rw [HZ.out]; exact zs_at l 0 (by omega))
  have c1 := hc 1 (z 1) (by rw [HZ.out]; exact zs_at l 1 (by omega))
  have c2 := hc 2 (z 2) (by rw [HZ.out]; exact zs_at l 2 (by omega))
  have c3 := hc 3 (z 3) (by rw [HZ.out]; exact zs_at l 3 (by omega))
  have c4 := hc 4 (z 4) (by rw [HZ.out]; exact zs_at l 4 (by omega))
  clear hc ho1
  have HSL := Lib.hid hsl; clear hsl
  have HB := Lib.hid hB; have HG := Lib.hid hg; have HCM := Lib.hid hcm; clear hB hg hcm
  go_upto_region 3 with fail
  refine name_wp fun W2 hW2 => ?_
  have b3 : Box W2 W1.heap.size #[.int .i64 (z 0), .int .i64 0, .int .i64 0, .int .i64 0, .slice none 0 0, .int .i64 0, .int .i64 0, .int .i64 0, .slice none 0 0] 58 := hW2 ▸ Box.new _ _ _
  have hb2 : Below W1.heap.size W1 W2 := hW2 ▸ (Below.refl _ _).alloc (Nat.le_refl _) _
  clear hW2
  have b22 := b21.next hb2
  have hw2 : W1.heap.size < W2.heap.size := b3.lt
  have hgs2 : g < W2.heap.size := by omega
  have hne1 : g ≠ W1.heap.size := by omega
  have hne2 : W1.heap.size ≠ g := by omega
  replace c0 := (cell_of_block (hb2.block _ hgs)).trans c0
  replace c1 := (cell_of_block (hb2.block _ hgs)).trans c1
  replace c2 := (cell_of_block (hb2.block _ hgs)).trans c2
  replace c3 := (cell_of_block (hb2.block _ hgs)).trans c3
  replace c4 := (cell_of_block (hb2.block _ hgs)).trans c4
  have hB2 : Below B w W2 := HB.out.trans (hb2.mono (Nat.le_trans hBw (Nat.le_of_lt hz1)))
  have hbl1 : B ≤ W1.heap.size := by omega
  have HB2 := Lib.hid hB2; have HX2 := Lib.hid hb2; clear hB2 hb2 b21
  obtain ⟨d0, d1, d2, d3, d4, d5, d6, d7, d8⟩ := nine_cells b3
  obtain ⟨f0, f1, f2, f3, f4, f5, f6, f7, f8⟩ := nine_free b3
  by_cases h0 : z 0 = 0
  ·
    have b0 : (z 0 == 0) = true := by rw [h0]; rfl
    have H0 := Lib.hid h0; clear h0
    go_upto_region 6 with fail
    go_region
    go_upto_region 10 with fail
    refine name_wp fun W3 hW3 => ?_
    have b33 : Box W3 W1.heap.size #[.int .i64 (z 0), .int .i64 (z 1), .int .i64 (z 2), .int .i64 (z 3), .slice none 0 0, .int .i64 0, .int .i64 0, .int .i64 0, .slice none 0 0] 58 := by rw [← hW3]; exact (drew_block _ _).trans (blk_set (blk_set (blk_set b3 1 _) 2 _) 3 _)
    have hfb : ∀ q, q ≠ W1.heap.size → W3.heap[q]? = W2.heap[q]? := fun q hq => by rw [← hW3]; exact (drew_block _ _).trans ((((heap_setCell_other _ _ _ _ hq).trans (heap_setCell_other _ _ _ _ hq)).trans (heap_setCell_other _ _ _ _ hq)))
    have b23 : Box W3 w.heap.size #[.int .i64 0, .int .i64 0, .int .i64 0, .int .i64 0, .slice none 0 0, .int .i64 0, .int .i64 0, .int .i64 0, .slice none 0 0] 58 := (hfb _ (by omega)).trans b22
    have hB3 : Below B w W3 := by rw [← hW3]; exact (below_set (below_set (below_set (HB2.out) hbl1) hbl1) hbl1).drew
    clear hW3
    clear d0 d1 d2 d3 d4 d5 d6 d7 d8
    clear f0 f1 f2 f3 f4 f5 f6 f7 f8
    clear c0 c1 c2 c3 c4
    have hw3 : W1.heap.size < W3.heap.size := b33.lt
    obtain ⟨d0, d1, d2, d3, d4, d5, d6, d7, d8⟩ := nine_cells b33
    obtain ⟨g0, g1, g2, g3, g4, g5, g6, g7, g8⟩ := nine_cells b23
    obtain ⟨f0, f1, f2, f3, f4, f5, f6, f7, f8⟩ := nine_free b23
    have B23 := Lib.hid b23; have BB := Lib.hid hB3; clear b23 b33 hB3 b22 b3
    go_wp2_with fail
    clear d0 f0 g0 d1 f1 g1 d2 f2 g2 d3 f3 g3 d4 f4 g4 d5 f5 g5 d6 f6 g6 d7 f7 g7 d8 f8 g8
    have r := nine_box (a0 := .int .i64 (z 0)) (a1 := .int .i64 (z 1)) (a2 := .int .i64 (z 2)) (a3 := .int .i64 (z 3)) (a4 := .slice none 0 0) (a5 := .int .i64 0) (a6 := .int .i64 0) (a7 := .int .i64 0) (a8 := .slice none 0 0) B23.out
    have hfar := fun (q : Nat) (hq : q ≠ w.heap.size) => nine_far (w := W3) (b := w.heap.size) (a0 := .int .i64 (z 0)) (a1 := .int .i64 (z 1)) (a2 := .int .i64 (z 2)) (a3 := .int .i64 (z 3)) (a4 := .slice none 0 0) (a5 := .int .i64 0) (a6 := .int .i64 0) (a7 := .int .i64 0) (a8 := .slice none 0 0) hq
    have hz9 := nine_size (w := W3) (b := w.heap.size) (a0 := .int .i64 (z 0)) (a1 := .int .i64 (z 1)) (a2 := .int .i64 (z 2)) (a3 := .int .i64 (z 3)) (a4 := .slice none 0 0) (a5 := .int .i64 0) (a6 := .int .i64 0) (a7 := .int .i64 0) (a8 := .slice none 0 0)
    have hbl := nine_below (b := w.heap.size) (a0 := .int .i64 (z 0)) (a1 := .int .i64 (z 1)) (a2 := .int .i64 (z 2)) (a3 := .int .i64 (z 3)) (a4 := .slice none 0 0) (a5 := .int .i64 0) (a6 := .int .i64 0) (a7 := .int .i64 0) (a8 := .slice none 0 0) BB.out hBw
    unfold wnine at r
    obtain ⟨g0, g1, g2, g3, g4, g5, g6, g7, g8⟩ := nine_cells r
    refine bodyPost_ret (v := .agg #[.int .i64 (z 0), .int .i64 (z 1), .int .i64 (z 2), .int .i64 (z 3), .slice none 0 0, .int .i64 0, .int .i64 0, .int .i64 0, .slice none 0 0]) (by simp [results, Try.results74, go_sem, g0, g1, g2, g3, g4, g5, g6, g7, g8]) rfl ⟨⟨_, rfl, ?_⟩, hbl⟩
    have hf : Fr.numF (Pc.zs l) = ⟨z 0, z 1, z 2, z 3, [], 0, 0, 0, []⟩ := by
      unfold Fr.numF
      rw [← HZ.out, ← HZ.out, ← HZ.out, ← HZ.out, if_pos H0.out, H0.out]
    rw [hf]
    exact FrIs.of (f := ⟨z 0, z 1, z 2, z 3, [], 0, 0, 0, []⟩) SliceIs.none_ SliceIs.none_
  by_cases h6 : z 0 = 6
  ·
    have b0 : (z 0 == 0) = false := by simpa using h0
    have b6 : (z 0 == 6) = true := by rw [h6]; rfl
    have H6 := Lib.hid h6; clear h6
    go_upto_region 8 with fail
    go_region
    go_upto_region 9 with fail
    clear d0 d1 d2 d3 d4 d5 d6 d7 d8
    clear f0 f1 f2 f3 f4 f5 f6 f7 f8
    refine name_wp fun W5 hW5 => ?_
    have b5 : Box W5 W1.heap.size #[.int .i64 (z 0), .int .i64 0, .int .i64 0, .int .i64 0, .slice none 0 0, .int .i64 (z 1), .int .i64 (z 2), .int .i64 (z 3), .slice none 0 0] 58 := by rw [← hW5]; exact (drew_block _ _).trans (blk_set (blk_set (blk_set b3 5 _) 6 _) 7 _)
    have hfb5 : ∀ q, q ≠ W1.heap.size → W5.heap[q]? = W2.heap[q]? := fun q hq => by rw [← hW5]; exact (drew_block _ _).trans (((heap_setCell_other _ _ _ _ hq).trans (heap_setCell_other _ _ _ _ hq)).trans (heap_setCell_other _ _ _ _ hq))
    have hB5 : Below B w W5 := by rw [← hW5]; exact (below_set (below_set (below_set HB2.out hbl1) hbl1) hbl1).drew
    clear hW5
    replace c4 := (cell_of_block (hfb5 g hne1)).trans c4
    clear c0 c1 c2 c3
    obtain ⟨d0, d1, d2, d3, d4, d5, d6, d7, d8⟩ := nine_cells b5
    obtain ⟨f0, f1, f2, f3, f4, f5, f6, f7, f8⟩ := nine_free b5
    obtain ⟨m, hm⟩ : ∃ m : Nat, min (max (z 4) 0) (l.length : Int) = (m : Int) := ⟨(min (max (z 4) 0) (l.length : Int)).toNat, by omega⟩
    have hm5 : m ≤ l.length := by omega
    have e5 : ((l.length + 5 : Nat) : Int) - 5 = (l.length : Int) := by omega
    go_upto_region 10 with fail
    have hpath : SliceIs Rep.int true W1 g (g + 1) (.slice (if cap = 5 then some ⟨g, 0, none⟩ else some ⟨g, 5, none⟩) m (cap - 5)) (((Pc.zs l ++ [0, 0, 0, 0, 0]).drop 5).take m) := (SliceIs.tail_ (k := 5) HSL.out (by simp [Pc.zs])).head_ (by simp [Pc.zs]; omega)
    have HP := Lib.hid hpath; clear hpath
    generalize hav : (if cap = 5 then some (⟨g, 0, none⟩ : Addr) else some ⟨g, 5, none⟩) = AV at HP ⊢
    clear hav
    refine name_wp fun W3 hW3 => ?_
    have b33 : Box W3 W1.heap.size #[.int .i64 (z 0), .int .i64 0, .int .i64 0, .int .i64 0, .slice none 0 0, .int .i64 (z 1), .int .i64 (z 2), .int .i64 (z 3), .slice AV m (cap - 5)] 58 := by rw [← hW3]; exact blk_set b5 8 _
    have hfb3 : ∀ q, q ≠ W1.heap.size → W3.heap[q]? = W2.heap[q]? := fun q hq => by rw [← hW3]; exact (heap_setCell_other _ _ _ _ hq).trans (hfb5 q hq)
    have b23 : Box W3 w.heap.size #[.int .i64 0, .int .i64 0, .int .i64 0, .int .i64 0, .slice none 0 0, .int .i64 0, .int .i64 0, .int .i64 0, .slice none 0 0] 58 := (hfb3 _ (by omega)).trans b22
    have hB3 : Below B w W3 := by rw [← hW3]; exact below_set hB5 hbl1
    clear hW3 hfb5
    clear d0 d1 d2 d3 d4 d5 d6 d7 d8
    clear f0 f1 f2 f3 f4 f5 f6 f7 f8
    clear c4
    have hw3 : W1.heap.size < W3.heap.size := b33.lt
    obtain ⟨d0, d1, d2, d3, d4, d5, d6, d7, d8⟩ := nine_cells b33
    obtain ⟨g0, g1, g2, g3, g4, g5, g6, g7, g8⟩ := nine_cells b23
    obtain ⟨f0, f1, f2, f3, f4, f5, f6, f7, f8⟩ := nine_free b23
    have B23 := Lib.hid b23; have BB := Lib.hid hB3; have HFB := Lib.hid hfb3; have HM := Lib.hid hm; clear b23 b33 hB3 b22 b3 b5 hB5 hfb3 hm e5
    go_wp2_with fail
    clear d0 f0 g0 d1 f1 g1 d2 f2 g2 d3 f3 g3 d4 f4 g4 d5 f5 g5 d6 f6 g6 d7 f7 g7 d8 f8 g8
    have r := nine_box (a0 := .int .i64 (z 0)) (a1 := .int .i64 0) (a2 := .int .i64 0) (a3 := .int .i64 0) (a4 := .slice none 0 0) (a5 := .int .i64 (z 1)) (a6 := .int .i64 (z 2)) (a7 := .int .i64 (z 3)) (a8 := .slice AV m (cap - 5)) B23.out
    have hfar := fun (q : Nat) (hq : q ≠ w.heap.size) => nine_far (w := W3) (b := w.heap.size) (a0 := .int .i64 (z 0)) (a1 := .int .i64 0) (a2 := .int .i64 0) (a3 := .int .i64 0) (a4 := .slice none 0 0) (a5 := .int .i64 (z 1)) (a6 := .int .i64 (z 2)) (a7 := .int .i64 (z 3)) (a8 := .slice AV m (cap - 5)) hq
    have hz9 := nine_size (w := W3) (b := w.heap.size) (a0 := .int .i64 (z 0)) (a1 := .int .i64 0) (a2 := .int .i64 0) (a3 := .int .i64 0) (a4 := .slice none 0 0) (a5 := .int .i64 (z 1)) (a6 := .int .i64 (z 2)) (a7 := .int .i64 (z 3)) (a8 := .slice AV m (cap - 5))
    have hbl := nine_below (b := w.heap.size) (a0 := .int .i64 (z 0)) (a1 := .int .i64 0) (a2 := .int .i64 0) (a3 := .int .i64 0) (a4 := .slice none 0 0) (a5 := .int .i64 (z 1)) (a6 := .int .i64 (z 2)) (a7 := .int .i64 (z 3)) (a8 := .slice AV m (cap - 5)) BB.out hBw
    unfold wnine at r
    obtain ⟨g0, g1, g2, g3, g4, g5, g6, g7, g8⟩ := nine_cells r
    refine bodyPost_ret (v := .agg #[.int .i64 (z 0), .int .i64 0, .int .i64 0, .int .i64 0, .slice none 0 0, .int .i64 (z 1), .int .i64 (z 2), .int .i64 (z 3), .slice AV m (cap - 5)]) (by simp [results, Try.results74, go_sem, g0, g1, g2, g3, g4, g5, g6, g7, g8]) rfl ⟨⟨_, rfl, ?_⟩, hbl⟩
    have hlm : (((Pc.zs l ++ [0, 0, 0, 0, 0]).drop 5).take m).length = m := by simp [Pc.zs]; omega
    have hf : Fr.numF (Pc.zs l) = ⟨z 0, 0, 0, 0, [], z 1, z 2, z 3, ((Pc.zs l ++ [0, 0, 0, 0, 0]).drop 5).take m⟩ := by
      unfold Fr.numF
      rw [← HZ.out, ← HZ.out, ← HZ.out, ← HZ.out, ← HZ.out, if_neg h0, if_pos H6.out, ← H6.out, show (min (max (z 4) 0) ((Pc.zs l).length : Int)).toNat = m by have := HM.out; simp only [Pc.zs, List.length_map]; omega]
    rw [hf]
    refine FrIs.of (f := ⟨z 0, 0, 0, 0, [], z 1, z 2, z 3, ((Pc.zs l ++ [0, 0, 0, 0, 0]).drop 5).take m⟩) SliceIs.none_ ?_
    have hgw := HGW.out; have hhg := HG.out
    refine (((HP.out.soft.keep fun q h1 h2 => HX2.out.block q (by omega)).keep fun q h1 h2 => HFB.out q (by omega)).keep fun q h1 h2 => hfar q (by omega)).widen hhg (Nat.le_trans ?_ (Nat.le_of_eq hz9.symm))
    omega
  have b0 : (z 0 == 0) = false := by simpa using h0
  have b6 : (z 0 == 6) = false := by simpa using h6
  go_upto_region 10 with fail
  refine name_wp fun W3 hW3 => ?_
  have b33 : Box W3 W1.heap.size #[.int .i64 (z 0), .int .i64 (z 1), .int .i64 0, .int .i64 0, .slice none 0 0, .int .i64 0, .int .i64 0, .int .i64 0, .slice none 0 0] 58 := by rw [← hW3]; exact (blk_set b3 1 _)
  have hfb : ∀ q, q ≠ W1.heap.size → W3.heap[q]? = W2.heap[q]? := fun q hq => by rw [← hW3]; exact ((heap_setCell_other _ _ _ _ hq))
  have b23 : Box W3 w.heap.size #[.int .i64 0, .int .i64 0, .int .i64 0, .int .i64 0, .slice none 0 0, .int .i64 0, .int .i64 0, .int .i64 0, .slice none 0 0] 58 := (hfb _ (by omega)).trans b22
  have hB3 : Below B w W3 := by rw [← hW3]; exact (below_set (HB2.out) hbl1)
  clear hW3
  clear d0 d1 d2 d3 d4 d5 d6 d7 d8
  clear f0 f1 f2 f3 f4 f5 f6 f7 f8
  clear c0 c1 c2 c3 c4
  have hw3 : W1.heap.size < W3.heap.size := b33.lt
  obtain ⟨d0, d1, d2, d3, d4, d5, d6, d7, d8⟩ := nine_cells b33
  obtain ⟨g0, g1, g2, g3, g4, g5, g6, g7, g8⟩ := nine_cells b23
  obtain ⟨f0, f1, f2, f3, f4, f5, f6, f7, f8⟩ := nine_free b23
  have B23 := Lib.hid b23; have BB := Lib.hid hB3; clear b23 b33 hB3 b22 b3
  go_wp2_with fail
  clear d0 f0 g0 d1 f1 g1 d2 f2 g2 d3 f3 g3 d4 f4 g4 d5 f5 g5 d6 f6 g6 d7 f7 g7 d8 f8 g8
  have r := nine_box (a0 := .int .i64 (z 0)) (a1 := .int .i64 (z 1)) (a2 := .int .i64 0) (a3 := .int .i64 0) (a4 := .slice none 0 0) (a5 := .int .i64 0) (a6 := .int .i64 0) (a7 := .int .i64 0) (a8 := .slice none 0 0) B23.out
  have hfar := fun (q : Nat) (hq : q ≠ w.heap.size) => nine_far (w := W3) (b := w.heap.size) (a0 := .int .i64 (z 0)) (a1 := .int .i64 (z 1)) (a2 := .int .i64 0) (a3 := .int .i64 0) (a4 := .slice none 0 0) (a5 := .int .i64 0) (a6 := .int .i64 0) (a7 := .int .i64 0) (a8 := .slice none 0 0) hq
  have hz9 := nine_size (w := W3) (b := w.heap.size) (a0 := .int .i64 (z 0)) (a1 := .int .i64 (z 1)) (a2 := .int .i64 0) (a3 := .int .i64 0) (a4 := .slice none 0 0) (a5 := .int .i64 0) (a6 := .int .i64 0) (a7 := .int .i64 0) (a8 := .slice none 0 0)
  have hbl := nine_below (b := w.heap.size) (a0 := .int .i64 (z 0)) (a1 := .int .i64 (z 1)) (a2 := .int .i64 0) (a3 := .int .i64 0) (a4 := .slice none 0 0) (a5 := .int .i64 0) (a6 := .int .i64 0) (a7 := .int .i64 0) (a8 := .slice none 0 0) BB.out hBw
  unfold wnine at r
  obtain ⟨g0, g1, g2, g3, g4, g5, g6, g7, g8⟩ := nine_cells r
  refine bodyPost_ret (v := .agg #[.int .i64 (z 0), .int .i64 (z 1), .int .i64 0, .int .i64 0, .slice none 0 0, .int .i64 0, .int .i64 0, .int .i64 0, .slice none 0 0]) (by simp [results, Try.results74, go_sem, g0, g1, g2, g3, g4, g5, g6, g7, g8]) rfl ⟨⟨_, rfl, ?_⟩, hbl⟩
  have hf : Fr.numF (Pc.zs l) = ⟨z 0, z 1, 0, 0, [], 0, 0, 0, []⟩ := by
    unfold Fr.numF
    rw [← HZ.out, ← HZ.out, if_neg h0, if_neg h6]
  rw [hf]
  exact FrIs.of (f := ⟨z 0, z 1, 0, 0, [], 0, 0, 0, []⟩) SliceIs.none_ SliceIs.none_
end Go.Proofs.Ytdfgnmdofjhnkaa

/- What frames' bytes are decoded to, in plain Lean. Nothing of the program. -/
namespace Go.Proofs.Ytdfgnmdofjhnkaa
namespace Fr
/-! ### bytes of numbers, and of pieces, end where they end -/
theorem puts_split : ∀ {L M : List Int} {r t : List UInt8}, L.length = M.length → Pc.Nums L → Pc.Nums M → W.puts L ++ r = W.puts M ++ t → L = M ∧ r = t := by
  intro L
  induction L with
  | nil => intro M r t hl _ _ h; cases M with
    | nil => exact ⟨rfl, by simpa [W.puts] using h⟩
    | cons _ _ => simp at hl
  | cons x L ih => intro M r t hl h1 h2 h; cases M with
    | nil => simp at hl
    | cons y M =>
      have e : W.put x ++ (W.puts L ++ r) = W.put y ++ (W.puts M ++ t) := by simpa [W.puts] using h
      have a := W.rd_put x (W.puts L ++ r)
      have b := W.rd_put y (W.puts M ++ t)
      rw [e, b] at a
      simp only [W.Got.ok.injEq] at a
      have hx := h1 x (by simp)
      have hy := h2 y (by simp)
      have cx := W.cl_of x hx.1 hx.2
      have cy := W.cl_of y hy.1 hy.2
      have hxy : x = y := by omega
      subst hxy
      obtain ⟨h3, h4⟩ := ih (M := M) (r := r) (t := t) (by simpa using hl) (fun z hz => h1 z (by simp [hz])) (fun z hz => h2 z (by simp [hz])) (List.append_cancel_left e)
      exact ⟨by rw [h3], h4⟩
theorem texts_split : ∀ {L M : List Pc.Piece} {r t : List UInt8}, L.length = M.length → (∀ p ∈ L, Pc.right p = true) → (∀ p ∈ M, Pc.right p = true) → texts L ++ r = texts M ++ t → L = M ∧ r = t := by
  intro L
  induction L with
  | nil => intro M r t hl _ _ h; cases M with
    | nil => exact ⟨rfl, by simpa [texts] using h⟩
    | cons _ _ => simp at hl
  | cons x L ih => intro M r t hl h1 h2 h; cases M with
    | nil => simp at hl
    | cons y M =>
      have hx := h1 x (by simp)
      have hy := h2 y (by simp)
      have e : W.text (Pc.enc x) ++ (texts L ++ r) = W.text (Pc.enc y) ++ (texts M ++ t) := by simpa [texts] using h
      have lx := enc_le hx
      have ly := enc_le hy
      have a := take_text (Pc.enc x) (texts L ++ r) 1000000 (by omega) (by omega)
      have b := take_text (Pc.enc y) (texts M ++ t) 1000000 (by omega) (by omega)
      rw [e, b] at a
      simp only [W.Took.ok.injEq] at a
      have ex : Pc.enc x = W.puts (Pc.nums x) := by unfold Pc.enc; rw [if_pos hx]
      have ey : Pc.enc y = W.puts (Pc.nums y) := by unfold Pc.enc; rw [if_pos hy]
      have dx := (Pc.dec_enc hx).1
      have dy := (Pc.dec_enc hy).1
      rw [← ex] at dx
      rw [← ey, a.1, dx] at dy
      subst dy
      obtain ⟨h3, h4⟩ := ih (M := M) (r := r) (t := t) (by simpa using hl) (fun z hz => h1 z (by simp [hz])) (fun z hz => h2 z (by simp [hz])) (List.append_cancel_left e)
      exact ⟨by rw [h3], h4⟩
theorem all_len : ∀ (k : Nat) (l : List UInt8) (r : List Nat), l.length ≤ k → W.all l = .ok r → r.length ≤ l.length := by
  intro k
  induction k with
  | zero =>
    intro l r hl h
    have : l = [] := List.eq_nil_of_length_eq_zero (by omega)
    subst this; rw [W.all_nil] at h; cases h; exact Nat.le_refl _
  | succ k ih =>
    intro l r hl h
    cases hr : W.rd l 0 0 with
    | bad e' =>
      by_cases hn : l = []
      · subst hn; rw [W.all_nil] at h; cases h; exact Nat.le_refl _
      · rw [W.all_bad hn hr] at h; cases h
    | ok n i =>
      have hp := W.rd_pos _ _ _ _ _ hr
      rw [W.all_ok hr] at h
      cases hd : W.all (l.drop i) with
      | bad e' => rw [hd] at h; cases h
      | ok r' =>
        rw [hd] at h
        simp only [W.Alls.pre] at h
        injection h with h
        subst h
        have := ih (l.drop i) r' (by simp; omega) hd
        simp at this ⊢
        omega
theorem nums_of {a : List Int} (h : ∀ x ∈ a, 0 ≤ x ∧ x ≤ 2147483647) : Pc.Nums a := h
/-- No frame's bytes begin another one's. -/
theorem body_split {F G : Fr} {r t : List UInt8} (hF : right F = true) (hG : right G = true) (h : body F ++ r = body G ++ t) : F = G ∧ r = t := by
  have kF := right_kind hF
  have kG := right_kind hG
  have hk : F.kind = G.kind := by
    obtain ⟨r1, e1⟩ := kind_at F
    obtain ⟨r2, e2⟩ := kind_at G
    rw [e1, e2, List.append_assoc, List.append_assoc] at h
    have := (puts_split (L := [F.kind]) (M := [G.kind]) rfl (by intro x hx; simp at hx; omega) (by intro x hx; simp at hx; omega) h).1
    simpa using this
  by_cases h5 : F.kind = 5
  · have g5 : G.kind = 5 := by omega
    obtain ⟨a1, a2, a3⟩ := right_pieces hF h5
    obtain ⟨b1, b2, b3⟩ := right_pieces hG g5
    rw [body_5' h5, body_5' g5, List.append_assoc, List.append_assoc] at h
    have n1 : Pc.Nums [5, F.epoch, (F.pieces.length : Int)] := by intro x hx; simp at hx; omega
    have n2 : Pc.Nums [5, G.epoch, (G.pieces.length : Int)] := by intro x hx; simp at hx; omega
    obtain ⟨e1, e2⟩ := puts_split (by rfl) n1 n2 h
    simp only [List.cons.injEq, true_and, and_true] at e1
    obtain ⟨e3, e4⟩ := texts_split (by omega) a3 b3 e2
    refine ⟨?_, e4⟩
    have oF := right_only hF
    have oG := right_only hG
    rw [oF, oG]
    unfold only
    rw [if_neg (by omega), if_pos h5, if_neg (by omega), if_pos g5, e1.1, e3]
  · by_cases h6 : F.kind = 6
    · have g6 : G.kind = 6 := by omega
      obtain ⟨a1, a2, a3, a4, a5⟩ := right_nums6 hF h6
      obtain ⟨b1, b2, b3, b4, b5⟩ := right_nums6 hG g6
      have pF : ∀ f : Fr, W.puts ([6, f.init, f.num, f.count, (f.path.length : Int)] ++ f.path) = W.puts [6, f.init, f.num, f.count, (f.path.length : Int)] ++ W.puts f.path := by intro f; simp [W.puts]
      rw [body6 h6, body6 g6, List.append_nil, List.append_nil, pF, pF, List.append_assoc, List.append_assoc] at h
      have n1 : Pc.Nums [6, F.init, F.num, F.count, (F.path.length : Int)] := by intro x hx; simp at hx; omega
      have n2 : Pc.Nums [6, G.init, G.num, G.count, (G.path.length : Int)] := by intro x hx; simp at hx; omega
      obtain ⟨e1, e2⟩ := puts_split (by rfl) n1 n2 h
      simp only [List.cons.injEq, true_and, and_true] at e1
      obtain ⟨e3, e4⟩ := puts_split (by omega) (fun x hx => by have := a5 x hx; omega) (fun x hx => by have := b5 x hx; omega) e2
      refine ⟨?_, e4⟩
      have oF := right_only hF
      have oG := right_only hG
      rw [oF, oG]
      unfold only
      rw [if_neg (by omega), if_neg (by omega), if_pos h6, if_neg (by omega), if_neg (by omega), if_pos g6, e1.1, e1.2.1, e1.2.2.1, e3]
    · have hl : (heads F).length = (heads G).length := by
        unfold heads
        rw [if_neg h6, if_neg (by omega : ¬ G.kind = 6)]
        by_cases h0 : F.kind = 0
        · rw [if_pos h0, if_pos (by omega)]; rfl
        · rw [if_neg h0, if_neg (by omega)]; rfl
      rw [body_heads h5, body_heads (by omega)] at h
      obtain ⟨e1, e2⟩ := puts_split hl (heads_nums hF h5) (heads_nums hG (by omega)) h
      refine ⟨?_, e2⟩
      rw [← numF_heads hF h5, ← numF_heads hG (by omega), e1]
theorem body_inj {F G : Fr} (hF : right F = true) (hG : right G = true) (h : body F = body G) : F = G :=
  (body_split (r := []) (t := []) hF hG (by rw [h])).1

/-! ### the frame of bytes -/
open Classical in
noncomputable def dec (l : List UInt8) : Fr := if h : ∃ F, right F = true ∧ body F = l then h.choose else zero
open Classical in
noncomputable def decE (l : List UInt8) : Int := if ∃ F, right F = true ∧ body F = l then 0 else 4
theorem dec_yes {l : List UInt8} {f : Fr} (h : right f = true) (hb : body f = l) : dec l = f ∧ decE l = 0 := by
  have hex : ∃ F, right F = true ∧ body F = l := ⟨f, h, hb⟩
  unfold dec decE
  rw [dif_pos hex, if_pos hex]
  exact ⟨body_inj hex.choose_spec.1 h (hex.choose_spec.2.trans hb.symm), rfl⟩
theorem dec_no {l : List UInt8} (h : ∀ F, right F = true → body F ≠ l) : dec l = zero ∧ decE l = 4 := by
  have hex : ¬ ∃ F, right F = true ∧ body F = l := by rintro ⟨F, h1, h2⟩; exact h F h1 h2
  unfold dec decE
  rw [dif_neg hex, if_neg hex]
  exact ⟨rfl, rfl⟩
theorem dec_rd {l : List UInt8} {f : Fr} (hi : IsRd l f) (h : ¬ (right f = true ∧ body f = l)) : dec l = zero ∧ decE l = 4 :=
  dec_no fun F h1 h2 => h (by rw [hi F h1 h2]; exact ⟨h1, h2⟩)
/-- What is decoded: a frame that may be, with just these bytes; or none. -/
theorem dec_or (l : List UInt8) : (right (dec l) = true ∧ body (dec l) = l ∧ decE l = 0) ∨ (dec l = zero ∧ decE l = 4 ∧ ∀ F, right F = true → body F ≠ l) := by
  by_cases hex : ∃ F, right F = true ∧ body F = l
  · obtain ⟨F, h1, h2⟩ := hex
    obtain ⟨e1, e2⟩ := dec_yes h1 h2
    exact .inl ⟨by rw [e1]; exact h1, by rw [e1]; exact h2, e2⟩
  · have h : ∀ F, right F = true → body F ≠ l := fun F h1 h2 => hex ⟨F, h1, h2⟩
    exact .inr ⟨(dec_no h).1, (dec_no h).2, h⟩
/-- The numbers of other kinds, read all at once. -/
theorem isRd_num {l : List UInt8} {ns : List Nat} (hl : W.all l = .ok ns) (h : ∀ F, right F = true → body F = l → F.kind ≠ 5) : IsRd l (numF (Pc.zs ns)) := by
  intro F h1 h2
  obtain ⟨ms, e1, e2⟩ := all_body h1 (h F h1 h2)
  rw [h2, hl] at e1
  cases e1
  exact e2
theorem isRd_bad {l : List UInt8} {k : Nat} {f : Fr} (hl : W.all l = .bad k) (h : ∀ F, right F = true → body F = l → F.kind ≠ 5) : IsRd l f := by
  intro F h1 h2
  obtain ⟨ms, e1, e2⟩ := all_body h1 (h F h1 h2)
  rw [h2, hl] at e1
  cases e1
/-- The kind, as word.Get reads it. -/
theorem kind_g3 {l : List UInt8} {k a e : Nat} (h : g3 l 0 = (k, a, e)) : ∀ F, right F = true → body F = l → e = 0 ∧ F.kind = (k : Int) ∧ a = (W.put F.kind).length := by
  intro F h1 h2
  subst h2
  obtain ⟨r, hr⟩ := kind_at F
  have hk := right_kind h1
  have c : W.cl F.kind = F.kind.toNat := by have := W.cl_of F.kind (by omega) (by omega); omega
  have hd : W.rd ((body F).drop 0) 0 0 = .ok F.kind.toNat (W.put F.kind).length := by
    rw [List.drop_zero, hr, ← c]
    simpa [W.puts] using W.rd_put F.kind r
  rw [g3_ok hd] at h
  cases h
  exact ⟨rfl, by omega, by omega⟩
theorem enc_ok {f : Fr} {l : List UInt8} (h1 : err f = 0) (h2 : enc f = l) : right f = true ∧ body f = l := by
  unfold err at h1
  unfold enc at h2
  cases hr : right f with
  | false => rw [hr] at h1; simp at h1
  | true => rw [hr] at h2; exact ⟨rfl, by simpa using h2⟩
theorem enc_no {f : Fr} {l : List UInt8} (h : ¬ (err f = 0 ∧ enc f = l)) : ¬ (right f = true ∧ body f = l) := by
  rintro ⟨h1, h2⟩
  apply h
  unfold err enc
  rw [if_pos h1, if_pos h1]
  exact ⟨rfl, h2⟩
end Fr
end Go.Proofs.Ytdfgnmdofjhnkaa
