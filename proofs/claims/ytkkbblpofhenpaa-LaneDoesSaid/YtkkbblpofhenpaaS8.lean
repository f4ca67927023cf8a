/- Lemmas, walks and contracts that the statements of this seat are proved by. -/
import Derived.Test.YtkkbblpofhenpaaS7
import Derived.Test.YtkkbblpofhenpaaS6
import Derived.Test.YtkkbblpofhenpaaS3
import Derived.Test.YtkkbblpofhenpaaS1
import Derived.Test.YtkkbblpofhenpaaS2
import Derived.Lib.AppendZerosOnto
import Derived.Test.YtkkbblpofhenpaaS5
/- Nine cells written; the law's Ref of a frame. -/
namespace Go.Proofs.Ytkkbblpofhenpaa
open Go.RowKit

section
variable {w : World} {b : Nat} {T : TypeId} {x0 x1 x2 x3 x4 x5 x6 x7 x8 a0 a1 a2 a3 a4 a5 a6 a7 a8 : Value}
/-- A world in which nine cells of block b were written. -/
def wnine (w : World) (b : Nat) (a0 a1 a2 a3 a4 a5 a6 a7 a8 : Value) : World := (((((((((w.setCell ⟨b, 0, none⟩ a0).setCell ⟨b, 1, none⟩ a1).setCell ⟨b, 2, none⟩ a2).setCell ⟨b, 3, none⟩ a3).setCell ⟨b, 4, none⟩ a4).setCell ⟨b, 5, none⟩ a5).setCell ⟨b, 6, none⟩ a6).setCell ⟨b, 7, none⟩ a7).setCell ⟨b, 8, none⟩ a8)
theorem nine_box (h : Box w b #[x0, x1, x2, x3, x4, x5, x6, x7, x8] T) : Box (wnine w b a0 a1 a2 a3 a4 a5 a6 a7 a8) b #[a0, a1, a2, a3, a4, a5, a6, a7, a8] T := by
  have h0 : Box (w.setCell ⟨b, 0, none⟩ a0) b #[a0, x1, x2, x3, x4, x5, x6, x7, x8] T := blk_set h 0 a0
  have h1 : Box ((w.setCell ⟨b, 0, none⟩ a0).setCell ⟨b, 1, none⟩ a1) b #[a0, a1, x2, x3, x4, x5, x6, x7, x8] T := blk_set h0 1 a1
  have h2 : Box (((w.setCell ⟨b, 0, none⟩ a0).setCell ⟨b, 1, none⟩ a1).setCell ⟨b, 2, none⟩ a2) b #[a0, a1, a2, x3, x4, x5, x6, x7, x8] T := blk_set h1 2 a2
  have h3 : Box ((((w.setCell ⟨b, 0, none⟩ a0).setCell ⟨b, 1, none⟩ a1).setCell ⟨b, 2, none⟩ a2).setCell ⟨b, 3, none⟩ a3) b #[a0, a1, a2, a3, x4, x5, x6, x7, x8] T := blk_set h2 3 a3
  have h4 : Box (((((w.setCell ⟨b, 0, none⟩ a0).setCell ⟨b, 1, none⟩ a1).setCell ⟨b, 2, none⟩ a2).setCell ⟨b, 3, none⟩ a3).setCell ⟨b, 4, none⟩ a4) b #[a0, a1, a2, a3, a4, x5, x6, x7, x8] T := blk_set h3 4 a4
  have h5 : Box ((((((w.setCell ⟨b, 0, none⟩ a0).setCell ⟨b, 1, none⟩ a1).setCell ⟨b, 2, none⟩ a2).setCell ⟨b, 3, none⟩ a3).setCell ⟨b, 4, none⟩ a4).setCell ⟨b, 5, none⟩ a5) b #[a0, a1, a2, a3, a4, a5, x6, x7, x8] T := blk_set h4 5 a5
  have h6 : Box (((((((w.setCell ⟨b, 0, none⟩ a0).setCell ⟨b, 1, none⟩ a1).setCell ⟨b, 2, none⟩ a2).setCell ⟨b, 3, none⟩ a3).setCell ⟨b, 4, none⟩ a4).setCell ⟨b, 5, none⟩ a5).setCell ⟨b, 6, none⟩ a6) b #[a0, a1, a2, a3, a4, a5, a6, x7, x8] T := blk_set h5 6 a6
  have h7 : Box ((((((((w.setCell ⟨b, 0, none⟩ a0).setCell ⟨b, 1, none⟩ a1).setCell ⟨b, 2, none⟩ a2).setCell ⟨b, 3, none⟩ a3).setCell ⟨b, 4, none⟩ a4).setCell ⟨b, 5, none⟩ a5).setCell ⟨b, 6, none⟩ a6).setCell ⟨b, 7, none⟩ a7) b #[a0, a1, a2, a3, a4, a5, a6, a7, x8] T := blk_set h6 7 a7
  exact blk_set h7 8 a8
theorem nine_far {k : Nat} (hk : k ≠ b) : (wnine w b a0 a1 a2 a3 a4 a5 a6 a7 a8).heap[k]? = w.heap[k]? := by
  have o : ∀ (w0 : World) (i : Nat) (u : Value), (w0.setCell ⟨b, i, none⟩ u).heap[k]? = w0.heap[k]? := fun w0 i u => heap_setCell_other _ _ _ _ hk
  unfold wnine; rw [o, o, o, o, o, o, o, o, o]
theorem nine_size : (wnine w b a0 a1 a2 a3 a4 a5 a6 a7 a8).heap.size = w.heap.size := by simp [wnine, World.setCell]
theorem nine_below {B : Nat} {w0 : World} (h : Below B w0 w) (hB : B ≤ b) : Below B w0 (wnine w b a0 a1 a2 a3 a4 a5 a6 a7 a8) := ((((((((h.setCell hB _).setCell hB _).setCell hB _).setCell hB _).setCell hB _).setCell hB _).setCell hB _).setCell hB _).setCell hB _
end

set_option maxRecDepth 100000 in
set_option maxHeartbeats 4000000 in
theorem frref_any (v : Value) (f : Fr) (w : World) (h : FrIs false w 0 w.heap.size v f) (hn : f.pieces.length ≤ 1000000) : Calls Try.prog 21 #[v] w
    fun z w' => (∃ u, z = .returned u ∧ FrIs false w' 0 w'.heap.size u f) ∧ Below w.heap.size w w' := by
  obtain ⟨k, e, s, t, ps, i, n, c, p⟩ := f
  obtain ⟨A, B, x, y, rfl, h1, h2⟩ := h
  dsimp only at h1 h2 hn ⊢
  go_enter Try.func21, Try.ntmps21
  go_upto_region 1 with fail
  refine name_wp fun W0 hW0 => ?_
  have bx : Box W0 w.heap.size #[.int .i64 k, .int .i64 e, .int .i64 s, .int .i64 t, .slice A ps.length x, .int .i64 i, .int .i64 n, .int .i64 c, .slice B p.length y] 37 := hW0 ▸ (Box.at' _ _ rfl).alloc _
  have b2 : Box W0 (w.heap.size + 1) #[.int .i64 0, .int .i64 0, .int .i64 0, .int .i64 0, .slice none 0 0, .int .i64 0, .int .i64 0, .int .i64 0, .slice none 0 0] 48 := hW0 ▸ Box.at' _ _ (by simp)
  have hB : Below w.heap.size w W0 := hW0 ▸ ((Below.refl _ _).alloc (Nat.le_refl _) _).alloc (by simp) _
  have hP := h1.below hB (Nat.le_refl _); have hQ := h2.below hB (Nat.le_refl _)
  have hE2 : w.heap.size + 1 < W0.heap.size := hW0 ▸ (by simp)
  have HE2 := Lib.hid hE2; clear hE2
  clear hW0 h1 h2
  have hne : w.heap.size ≠ w.heap.size + 1 := by omega
  have hE0 := hB.size
  replace hP := hP.below ((Below.refl w.heap.size W0).drew) (Nat.le_refl _); replace hQ := hQ.below ((Below.refl w.heap.size W0).drew) (Nat.le_refl _)
  replace bx := bx.next ((Below.refl _ _).drew)
  replace b2 := b2.next ((Below.refl _ _).drew)
  replace hB := hB.drew
  have hE := Ext.refl (W0.drew)
  refine region_go 256 (by kernel_rfl) ?_
  obtain ⟨d0, d1, d2, d3, d4, d5, d6, d7, d8⟩ := nine_cells bx
  refine wpAny_go 256 0 [6, 7] 192 17 (by kernel_rfl) (by kernel_rfl) (fun _ _ _ _ _ h => h) (by kernel_rfl) (by rfl) (by rfl) (by kernel_rfl) ?_
  simp only [List.map_cons, List.map_nil, List.getD_cons_succ, List.getD_cons_zero]
  go_wp2_with fail
  change wpAnyM _ _ _ _ _ _ _ _ _ _
  refine wpAny_reads 256 192 [0, 1, 2, 3, 4, 5, 9, 10, 11, 12, 13, 14, 15, 16] 130815 3 (by kernel_rfl) (by kernel_rfl) (fun _ _ _ _ _ h => h) (by kernel_rfl) (by rfl) (by rfl) (by kernel_rfl) ?_
  simp only [List.map_cons, List.map_nil, List.getD_cons_succ, List.getD_cons_zero]
  go_wp2_with fail
  change _ → wpAnyM _ _ _ _ _ _ _ _ _ _; intro _
  clear d0 d1 d2 d3 d4 d5 d6 d7 d8
  refine wpAny_oneM 8 131071 (by kernel_rfl) (by kernel_rfl) (of_decide_eq_true (by kernel_rfl)) (by rfl) ?_
  simp only [List.getD_cons_succ, List.getD_cons_zero]
  go_wp2_with fail
  refine (refs_any _ ps _ hP hE0 hn).mono ?_
  rintro e w1 ⟨⟨u, rfl, hu⟩, hb⟩
  replace hQ := hQ.below (hb.mono hE0) (Nat.le_refl _)
  replace bx := bx.next hb
  replace b2 := b2.next hb
  replace hE := hE.trans (Ext.below hb (Nat.le_refl _))
  replace hB := hB.trans (hb.mono hB.size)
  clear hb
  obtain ⟨A2, x2, rfl, _⟩ := id hu
  go_wp2_with fail
  refine ⟨fun _ => hE, ?_⟩
  obtain ⟨g0, g1, g2, g3, g4, g5, g6, g7, g8⟩ := nine_cells b2
  obtain ⟨f0, f1, f2, f3, f4, f5, f6, f7, f8⟩ := nine_free b2
  refine wpAny_go 256 131071 [17, 18] 524287 0 (by kernel_rfl) (by kernel_rfl) (fun _ _ _ _ _ h => h) (by kernel_rfl) (by rfl) (by rfl) (by kernel_rfl) ?_
  simp only [List.map_cons, List.map_nil, List.getD_cons_succ, List.getD_cons_zero]
  go_wp2_with fail
  change wpAnyM _ _ _ _ _ _ _ _ _ _
  clear g0 g1 g2 g3 g4 g5 g6 g7 g8 f0 f1 f2 f3 f4 f5 f6 f7 f8
  refine nameAny fun V hV => ?_
  have b3 : Box V (w.heap.size + 1) #[.int .i64 k, .int .i64 e, .int .i64 s, .int .i64 t, .slice A2 ps.length x2, .int .i64 i, .int .i64 n, .int .i64 c, .slice B p.length y] 48 := by rw [← hV]; exact nine_box b2
  have hBV : Below w.heap.size w V := by rw [← hV]; exact nine_below hB (Nat.le_succ _)
  have hs9 : V.heap.size = w1.heap.size := by rw [← hV]; exact nine_size
  have hk9 : ∀ q, q ≠ w.heap.size + 1 → V.heap[q]? = w1.heap[q]? := fun q hq => by rw [← hV]; exact nine_far hq
  have hb2l := b2.lt
  have hD : W0.drew.heap.size = W0.heap.size := by simp
  have hE3 := HE2.out
  have hfu : FrIs false V 0 V.heap.size (.agg #[.int .i64 k, .int .i64 e, .int .i64 s, .int .i64 t, .slice A2 ps.length x2, .int .i64 i, .int .i64 n, .int .i64 c, .slice B p.length y]) ⟨k, e, s, t, ps, i, n, c, p⟩ := FrIs.of (f := ⟨k, e, s, t, ps, i, n, c, p⟩) (SliceOn.is_ ((hu.keep fun q hq => hk9 q (by omega)).widen fun q hq => ⟨Nat.zero_le _, by omega⟩)) ((hQ.keep fun q _ hq => hk9 q (by omega)).widen (Nat.le_refl 0) (by omega))
  clear hD hE3
  refine wpAny_endM (by kernel_rfl) (by kernel_rfl) ?_
  obtain ⟨g0, g1, g2, g3, g4, g5, g6, g7, g8⟩ := nine_cells b3
  go_wp2_with fail
  refine bodyPost_ret (v := .agg #[.int .i64 k, .int .i64 e, .int .i64 s, .int .i64 t, .slice A2 ps.length x2, .int .i64 i, .int .i64 n, .int .i64 c, .slice B p.length y]) (by simp [results, Try.results21, g0, g1, g2, g3, g4, g5, g6, g7, g8, go_sem]) rfl ⟨⟨_, rfl, hfu⟩, hBV⟩
end Go.Proofs.Ytkkbblpofhenpaa

/- Rows of the call's own that lie apart; appends of whole slices to them (as in XHRow). Nothing of the program. -/
namespace Go.Proofs.Ytkkbblpofhenpaa
open Go.RowKit

/-- v: a row of the call's own, in block b (from B on), that reads as xs. -/
def Row {α : Type} (r : Rep α) (e : TypeId) (B : Nat) (w : World) (b : Option Nat) (v : Value) (xs : List α) : Prop :=
  ∃ cells, w.ownsRow B e r.size v xs.length cells ∧ r.all true w (fun _ => False) cells xs ∧ v.ownBlock = b
/-- Two rows' blocks are not the same one. -/
def Apart (b c : Option Nat) : Prop := ∀ k, b = some k → c = some k → False
theorem Apart.symm {b c : Option Nat} (h : Apart b c) : Apart c b := fun k h1 h2 => h k h2 h1
section
variable {α β : Type} {r : Rep α} {r2 : Rep β} {e e2 : TypeId} {B B2 : Nat} {w w' : World} {v u : Value} {xs : List α} {ys : List β} {b c b' : Option Nat}
theorem Row.lt (h : Row r e B w b v xs) {k : Nat} (hk : b = some k) : B ≤ k ∧ k < w.heap.size := by
  obtain ⟨cells, h1, _, h3⟩ := h
  exact h1.lt k (h3.trans hk)
theorem Row.base {B' : Nat} (h : Row r e B w b v xs) (hB : B' ≤ B) : Row r e B' w b v xs := by
  obtain ⟨cells, h1, h2, h3⟩ := h
  exact ⟨cells, own_base h1 hB, h2, h3⟩
theorem Row.keep (h : Row r e B w b v xs) (hk : ∀ k, b = some k → w'.heap[k]? = w.heap[k]?) : Row r e B w' b v xs := by
  obtain ⟨cells, h1, h2, h3⟩ := h
  refine ⟨cells, ⟨h1.1, ?_⟩, Rep.all_keep (fun _ h => h.elim) h2, h3⟩
  rcases h1.2 with h4 | ⟨g, cap, cur, hv, hg, hh, hr⟩
  · exact .inl h4
  · have : b = some g := by rw [← h3, hv]; rfl
    exact .inr ⟨g, cap, cur, hv, hg, (hk g this).trans hh, hr⟩
theorem Row.next (h : Row r e B w b v xs) (hb : Below w.heap.size w w') : Row r e B w' b v xs := h.keep fun k hk => hb.block k (h.lt hk).2
theorem Row.grown (h : Row r2 e2 B2 w c u ys) (hg : w.grownBy w' b) (ha : Apart b c) : Row r2 e2 B2 w' c u ys := h.keep fun k hk => hg.block k (h.lt hk).2 fun he => ha k he.symm hk
theorem Apart.next (ha : Apart b c) (h : Row r2 e2 B2 w c u ys) (h4 : b' = b ∨ ∃ k, b' = some k ∧ w.heap.size ≤ k) : Apart b' c := by
  intro k h1 h2
  rcases h4 with rfl | ⟨n, rfl, hn⟩
  · exact ha k h1 h2
  · cases h1; have := (h.lt h2).2; omega
theorem Row.slice (h : Row r e B w b v xs) : SliceIs r true w B w.heap.size v xs := by
  obtain ⟨cells, h1, h2, h3⟩ := h
  exact SliceOn.of_own (base := B) (e := e) h1 (Rep.all_widen (fun _ h => h.elim) h2) (fun k hk => h1.lt k hk)
theorem Row.got (h : Row r e B w b v xs) : SliceIs r false w 0 w.heap.size v xs := (h.slice.widen (Nat.zero_le _) (Nat.le_refl _)).soft
theorem Row.form (h : Row r e B w b v xs) : ∃ A cap, v = .slice A xs.length cap ∧ xs.length ≤ cap ∧ cap ≤ maxLen := by
  obtain ⟨A, c, rfl, h1, h2, _⟩ := h.slice
  exact ⟨A, c, rfl, h1, h2⟩
theorem Row.empty (r : Rep α) (e : TypeId) (w : World) : Row r e w.heap.size (w.alloc (.cells #[] e)) (some w.heap.size) (.slice (some ⟨w.heap.size, 0, none⟩) 0 0) [] :=
  ⟨[], own_lit (size := r.size) w.heap.size e 0 [] (by simp) (Nat.le_refl _) (by unfold maxLen; omega), rfl, rfl⟩
end
section
variable {P : Program} {w : World} {ops : Array Oper} {rest : List Oper} {o : Oper} {a : Act} {Q : Exit → Act → World → Prop}
/-- 'append(s, x...)'. -/
theorem wpList_rowS {α : Type} {r : Rep α} (hf : r.flat) {xs ys : List α} {fr : Bool} {lo hi : Nat} (hgd : o.guard = none) (s x : Operand) (t : TypeId) (ho : o.op = .call { callee := .builtin .append, args := #[s, x], argTypes := #[t, t] })
    (B : Nat) (e : TypeId) {z : Value} {bytes : Nat} (hinfo : (P.info? e).map (fun i => (i.zero, i.size, i.bytes)) = some (some z, r.size, bytes)) (ht : P.underlying t = some (.slice e))
    (hzs : z.cells.size = r.size) (hby : bytes ≤ 1000) (v u : Value) {b : Option Nat} (hs : a.eval s = v) (hrow : Row r e B w b v xs) (hB : B ≤ w.heap.size)
    (hx : a.eval x = u) (hu : SliceIs r fr w lo hi u ys) (hn : xs.length + ys.length ≤ 1000000)
    (h : ∀ v' w' b', Row r e B w' b' v' (xs ++ ys) → w.grownBy w' b → Below B w w' → (b' = b ∨ ∃ k, b' = some k ∧ w.heap.size ≤ k) → wpList P ops Q rest (a.put o.dst v') w') : wpList P ops Q (o :: rest) a w := by
  obtain ⟨cells, h1, h2, rfl⟩ := hrow
  obtain ⟨A, c, rfl, _, _, hA⟩ := hu
  refine wpList_appendS hgd s x t ho B e hinfo ht hzs v xs.length cells hs h1 A c hx hA (by unfold maxLen; omega) (Nat.le_trans (Nat.mul_le_mul (show xs.length + ys.length ≤ 1000001 by omega) hby) (by omega)) hB ?_
  intro v' w' news k0 k1 k2 k3 k4
  refine h v' w' _ ⟨cells ++ news, by rw [List.length_append]; exact k1, Rep.all_append (Rep.all_flat hf h2) (Rep.all_flat hf k0), rfl⟩ k2 k3 ?_
  rcases k4 with k4 | k4
  · exact .inl k4
  · exact .inr ⟨_, k4, by omega⟩
end
end Go.Proofs.Ytkkbblpofhenpaa

/- The law's Cut of a frame. -/
namespace Go.Proofs.Ytkkbblpofhenpaa
open Go.RowKit

/-- The law's Cut. -/
def Fr.cut (f : Fr) : Fr := ⟨f.kind, f.epoch, f.seq, f.letter, (f.pieces.take 7).map Pc.cut, f.init, f.num, f.count, f.path.take 8⟩
/-- What is left by the first part of Cut: a new frame without pieces, whose path is a row of its own. -/
def CutPost (W : World) (k e s t i n c : Int) (cp : List Int) (q : Value) (wx : World) : Prop :=
  ∃ g A y, q = .pointer (some ⟨g, 0, none⟩) ∧ W.heap.size ≤ g ∧ Box wx g #[.int .i64 k, .int .i64 e, .int .i64 s, .int .i64 t, .slice none 0 0, .int .i64 i, .int .i64 n, .int .i64 c, .slice A cp.length y] 37 ∧ SliceOn Rep.int false wx (fun b => W.heap.size ≤ b ∧ b < wx.heap.size ∧ b ≠ g) (.slice A cp.length y) cp ∧ Below W.heap.size W wx
theorem apart_box {b b' : Option Nat} {g : Nat} {w : World} (ha : Apart b (some g)) (hg : g < w.heap.size) (h4 : b' = b ∨ ∃ k, b' = some k ∧ w.heap.size ≤ k) : Apart b' (some g) := by
  intro k h1 h2
  rcases h4 with rfl | ⟨n, rfl, hn⟩
  · exact ha k h1 h2
  · cases h1; cases h2; omega
theorem Row.on {α : Type} {r : Rep α} {e : TypeId} {B : Nat} {w : World} {b : Option Nat} {v : Value} {xs : List α} (h : Row r e B w b v xs) {S : Nat → Prop} (hS : ∀ k, b = some k → S k) : SliceOn r false w S v xs := by
  obtain ⟨cells, h1, h2, h3⟩ := h
  exact (SliceOn.of_own (base := B) (e := e) h1 (Rep.all_widen (fun _ h => h.elim) h2) (fun g hg => hS g (h3.symm.trans hg))).soft
/-- All but block g is as it was. -/
def CutKeep (g : Nat) (W w : World) : Prop := W.heap.size ≤ w.heap.size ∧ ∀ q, q ≠ g → q < W.heap.size → w.heap[q]? = W.heap[q]?
theorem CutKeep.refl (g : Nat) (W : World) : CutKeep g W W := ⟨Nat.le_refl _, fun _ _ _ => rfl⟩
theorem CutPost.late {W w : World} {k e s t i n c : Int} {cp : List Int} {b : Option Nat} {A : Option Addr} {y B : Nat} (hrow : Row Rep.int 3 B w b (.slice A cp.length y) cp) (hB : W.heap.size ≤ B) (hV : Below W.heap.size W w) :
    CutPost W k e s t i n c cp (.pointer (some ⟨w.heap.size, 0, none⟩)) (w.alloc (.cells #[.int .i64 k, .int .i64 e, .int .i64 s, .int .i64 t, .slice none 0 0, .int .i64 i, .int .i64 n, .int .i64 c, .slice A cp.length y] 37)) :=
  ⟨_, A, y, rfl, hV.size, Box.new _ _ _, (hrow.next ((Below.refl _ _).alloc (Nat.le_refl _) _)).on (fun q hq => ⟨Nat.le_trans hB (hrow.lt hq).1, by have := (hrow.lt hq).2; simp; omega, by have := (hrow.lt hq).2; omega⟩), hV.alloc hV.size _⟩
theorem CutPost.early {W w : World} {k e s t i n c : Int} {cp : List Int} {b : Option Nat} {A : Option Addr} {y B g : Nat} {x0 x1 x2 x3 x4 x5 x6 x7 x8 : Value} (hrow : Row Rep.int 3 B w b (.slice A cp.length y) cp) (hB : W.heap.size ≤ B) (hV : Below W.heap.size W w)
    (hg : Box w g #[x0, x1, x2, x3, x4, x5, x6, x7, x8] 37) (hlo : W.heap.size ≤ g) (ha : Apart b (some g)) :
    CutPost W k e s t i n c cp (.pointer (some ⟨g, 0, none⟩)) (wnine w g (.int .i64 k) (.int .i64 e) (.int .i64 s) (.int .i64 t) (.slice none 0 0) (.int .i64 i) (.int .i64 n) (.int .i64 c) (.slice A cp.length y)) := by
  refine ⟨g, A, y, rfl, hlo, nine_box hg, ?_, nine_below hV hlo⟩
  exact (hrow.keep fun q hq => nine_far fun he => ha q hq (by rw [he])).on fun q hq => ⟨Nat.le_trans hB (hrow.lt hq).1, by rw [nine_size]; exact (hrow.lt hq).2, fun he => ha q hq (by rw [he])⟩

set_option maxRecDepth 100000 in
set_option maxHeartbeats 8000000 in
theorem frcut_any (v : Value) (f : Fr) (w : World) (h : FrIs false w 0 w.heap.size v f) : Calls Try.prog 18 #[v] w
    fun z w' => (∃ u, z = .returned u ∧ FrIs false w' w.heap.size w'.heap.size u (Fr.cut f)) ∧ Below w.heap.size w w' := by
  obtain ⟨k, e, s, t, ps, i, n, c, p⟩ := f
  obtain ⟨A, B, x, y, rfl, h1, h2⟩ := h
  dsimp only at h1 h2 ⊢
  obtain ⟨_, _, he, hql, hqm, _⟩ := id h2
  cases he
  unfold maxLen at hqm
  obtain ⟨cp, hcp⟩ : ∃ q, p.take 8 = q := ⟨_, rfl⟩
  obtain ⟨FC, hFC⟩ : ∃ q, Fr.cut ⟨k, e, s, t, ps, i, n, c, p⟩ = q := ⟨_, rfl⟩
  have hFC2 : FC = ⟨k, e, s, t, (ps.take 7).map Pc.cut, i, n, c, cp⟩ := by rw [← hFC, ← hcp]; rfl
  rw [hFC]
  have HFC := Lib.hid hFC2; clear hFC hFC2
  have hcl : (min (p.length : Int) 8).toNat = cp.length := by rw [← hcp]; simp; omega
  have hm0 : (0 : Int) ≤ min (p.length : Int) 8 := by omega
  have hm1 : min (p.length : Int) 8 ≤ (y : Int) := by omega
  have hcpl : cp.length ≤ 8 := by rw [← hcp]; simp; omega
  have hq0 : SliceIs Rep.int false w 0 w.heap.size (.slice B cp.length y) cp := by rw [← hcp]; exact ⟨_, _, rfl, by simp; omega, by unfold maxLen; omega, SliceAt.take 8 h2.arr⟩
  have HQ0 := Lib.hid hq0; clear hq0 hcp
  go_enter Try.func18, Try.ntmps18
  go_upto_region 1 with fail
  refine name_wp fun W0 hW0 => ?_
  have bx : Box W0 w.heap.size #[.int .i64 k, .int .i64 e, .int .i64 s, .int .i64 t, .slice A ps.length x, .int .i64 i, .int .i64 n, .int .i64 c, .slice B p.length y] 37 := hW0 ▸ (Box.at' _ _ rfl).alloc _
  have b2 : Box W0 (w.heap.size + 1) #[.int .i64 0, .int .i64 0, .int .i64 0, .int .i64 0, .slice none 0 0, .int .i64 0, .int .i64 0, .int .i64 0, .slice none 0 0] 37 := hW0 ▸ Box.at' _ _ (by simp)
  have hB : Below w.heap.size w W0 := hW0 ▸ ((Below.refl _ _).alloc (Nat.le_refl _) _).alloc (by simp) _
  clear hW0
  go_cut [3] (fun q wx => CutPost W0 k e s t i n c cp q wx)
  case first =>
    have hQ := HQ0.out.below hB (Nat.le_refl _)
    replace hQ := hQ.below ((Below.refl w.heap.size W0).drew) (Nat.le_refl _)
    have hV := (Below.refl W0.heap.size W0).drew
    have hE0 := hB.size
    replace bx := bx.next ((Below.refl _ _).drew)
    refine region_go 1048576 (by kernel_rfl) ?_
    obtain ⟨d0, d1, d2, d3, d4, d5, d6, d7, d8⟩ := nine_cells bx
    refine wpAny_go 1048576 0 [13, 14, 15, 16, 17] 253952 19 (by kernel_rfl) (by kernel_rfl) (fun _ _ _ _ _ h => h) (by kernel_rfl) (by rfl) (by rfl) (by kernel_rfl) ?_
    simp only [List.map_cons, List.map_nil, List.getD_cons_succ, List.getD_cons_zero]
    go_wp2_with fail
    change wpAnyM _ _ _ _ _ _ _ _ _ _
    refine wpAny_reads 1048576 253952 [0, 1, 2, 3, 4, 5, 6, 7, 8, 9, 10, 11] 258047 7 (by kernel_rfl) (by kernel_rfl) (fun _ _ _ _ _ h => h) (by kernel_rfl) (by rfl) (by rfl) (by kernel_rfl) ?_
    simp only [List.map_cons, List.map_nil, List.getD_cons_succ, List.getD_cons_zero]
    go_wp2_with fail
    change _ → wpAnyM _ _ _ _ _ _ _ _ _ _; intro _
    clear d0 d1 d2 d3 d4 d5 d6 d7 d8
    refine wpAny_takeM 18 rfl (by kernel_rfl) (by rfl : 258047 ||| 2 ^ 18 = 520191) (by kernel_rfl) (by kernel_rfl) (by kernel_rfl) (by kernel_rfl) (fun _ _ _ h => h) (.inl ⟨by rfl, fun w => by (go_simp; try with_reducible rfl)⟩) ?_
    refine wpAny_go 1048576 520191 [19] 1044479 5 (by kernel_rfl) (by kernel_rfl) (fun _ _ _ _ _ h => h) (by kernel_rfl) (by rfl) (by rfl) (by kernel_rfl) ?_
    simp only [List.map_cons, List.map_nil, List.getD_cons_succ, List.getD_cons_zero]
    go_wp2_with fail
    change wpAnyM _ _ _ _ _ _ _ _ _ _
    refine nameAny fun y0 hy => ?_
    have s0 : W0.heap.size ≤ y0.heap.size := by rw [← hy]; simp
    rw [hy] at hV hQ
    have hD : Below W0.heap.size W0.drew y0 := by rw [hy]; exact Below.refl _ _
    clear hy bx hcl hm0 hm1
    refine wpAny_twoM 12 22 1048575 5238783 (by kernel_rfl) (by kernel_rfl) (of_decide_eq_true (by kernel_rfl)) (of_decide_eq_true (by kernel_rfl)) (by rfl) (by rfl) ?_ ?_
    ·
      simp only [List.getD_cons_succ, List.getD_cons_zero]
      go_wp2_with fail
      refine ⟨fun h => absurd h (by decide), nameAny fun y1 hw => ?_⟩
      have row : Row Rep.int 3 y0.heap.size y1 (some y0.heap.size) (.slice (some ⟨y0.heap.size, 0, none⟩) 0 0) [] := hw ▸ Row.empty Rep.int 3 y0
      have hh : Below y0.heap.size y0 y1 := hw ▸ ((Below.refl _ _).alloc (Nat.le_refl _) _)
      have s1 : y0.heap.size < y1.heap.size := hw ▸ (by simp)
      clear hw
      replace hD := hD.trans (hh.mono hV.size)
      replace hV := hV.trans (hh.mono hV.size)
      replace hQ := hQ.below (hh.mono (by omega)) (Nat.le_refl _)
      clear hh
      refine wpAny_twoM 20 22 2097151 5242879 (by kernel_rfl) (by kernel_rfl) (of_decide_eq_true (by kernel_rfl)) (of_decide_eq_true (by kernel_rfl)) (by rfl) (by rfl) ?_ ?_
      ·
        simp only [List.getD_cons_succ, List.getD_cons_zero]
        refine wpList_rowS (r := Rep.int) flat_int rfl (.tmp 17) (.tmp 24) 35 rfl y0.heap.size 3 Try.infoInt Try.underlying35 rfl (by omega) _ _ rfl row (by omega) rfl hQ (by simp only [List.length_nil]; omega) ?_
        intro v5 y2 b5 row5 hgr hb5 ha5
        clear row
        have row := row5; clear row5
        rw [List.nil_append] at row
        obtain ⟨A5, y5, rfl, _, _⟩ := row.form
        have s2 := hb5.size
        replace hV := hV.trans (hb5.mono (by omega))
        replace hD := hD.trans (hb5.mono (by omega))
        have hE := Ext.below hD (by simp)
        clear hb5 hgr ha5
        go_wp2_with fail
        refine ⟨fun _ => hE, ?_⟩
        refine wpAny_go 1048576 2097151 [21, 22, 23] 16777215 0 (by kernel_rfl) (by kernel_rfl) (fun _ _ _ _ _ h => h) (by kernel_rfl) (by rfl) (by rfl) (by kernel_rfl) ?_
        simp only [List.map_cons, List.map_nil, List.getD_cons_succ, List.getD_cons_zero]
        go_wp2_with fail
        change wpAnyM _ _ _ _ _ _ _ _ _ _
        refine wpAny_endM (by kernel_rfl) (by kernel_rfl) ?_
        go_wp2_with fail
        go_meet
        exact CutPost.late row (by omega) hV
      ·
        simp only [List.getD_cons_succ, List.getD_cons_zero]
        go_wp2_with fail
        refine ⟨fun h => absurd h (by decide), nameAny fun y2 hw => ?_⟩
        have hg : Box y2 y1.heap.size #[.int .i64 0, .int .i64 0, .int .i64 0, .int .i64 0, .slice none 0 0, .int .i64 0, .int .i64 0, .int .i64 0, .slice none 0 0] 37 := hw ▸ Box.new _ _ _
        have hh : Below y1.heap.size y1 y2 := hw ▸ ((Below.refl _ _).alloc (Nat.le_refl _) _)
        have s2 : y1.heap.size < y2.heap.size := hw ▸ (by simp)
        clear hw
        replace row := row.next hh
        replace hD := hD.trans (hh.mono hV.size)
        replace hV := hV.trans (hh.mono hV.size)
        replace hQ := hQ.below (hh.mono (by omega)) (Nat.le_refl _)
        clear hh
        have hap : Apart (some y0.heap.size) (some y1.heap.size) := fun q h1 h2 => by cases h1; injection h2; omega
        have hap0 := hap
        refine wpAny_oneM 20 6291455 (by kernel_rfl) (by kernel_rfl) (of_decide_eq_true (by kernel_rfl)) (by rfl) ?_
        simp only [List.getD_cons_succ, List.getD_cons_zero]
        refine wpList_rowS (r := Rep.int) flat_int rfl (.tmp 17) (.tmp 24) 35 rfl y0.heap.size 3 Try.infoInt Try.underlying35 rfl (by omega) _ _ rfl row (by omega) rfl hQ (by simp only [List.length_nil]; omega) ?_
        intro v5 y3 b5 row5 hgr hb5 ha5
        clear row
        have row := row5; clear row5
        rw [List.nil_append] at row
        obtain ⟨A5, y5, rfl, _, _⟩ := row.form
        have s3 := hb5.size
        replace hap := apart_box hap hg.lt ha5
        have hg5 : Box y3 y1.heap.size #[.int .i64 0, .int .i64 0, .int .i64 0, .int .i64 0, .slice none 0 0, .int .i64 0, .int .i64 0, .int .i64 0, .slice none 0 0] 37 := (hgr.block _ hg.lt (fun he => hap0 _ he.symm rfl)).trans hg
        clear hg
        have hg := hg5; clear hg5
        replace hV := hV.trans (hb5.mono (by omega))
        replace hD := hD.trans (hb5.mono (by omega))
        have hE := Ext.below hD (by simp)
        clear hb5 hgr ha5
        go_wp2_with fail
        refine ⟨fun _ => hE, ?_⟩
        obtain ⟨g0, g1, g2, g3, g4, g5, g6, g7, g8⟩ := nine_cells hg
        obtain ⟨f0, f1, f2, f3, f4, f5, f6, f7, f8⟩ := nine_free hg
        refine wpAny_go 1048576 6291455 [21, 23] 16777215 0 (by kernel_rfl) (by kernel_rfl) (fun _ _ _ _ _ h => h) (by kernel_rfl) (by rfl) (by rfl) (by kernel_rfl) ?_
        simp only [List.map_cons, List.map_nil, List.getD_cons_succ, List.getD_cons_zero]
        go_wp2_with fail
        change wpAnyM _ _ _ _ _ _ _ _ _ _
        clear g0 g1 g2 g3 g4 g5 g6 g7 g8 f0 f1 f2 f3 f4 f5 f6 f7 f8
        refine wpAny_endM (by kernel_rfl) (by kernel_rfl) ?_
        go_wp2_with fail
        go_meet
        exact CutPost.early row (by omega) hV hg (by omega) hap
    ·
      simp only [List.getD_cons_succ, List.getD_cons_zero]
      go_wp2_with fail
      refine ⟨fun h => absurd h (by decide), nameAny fun y1 hw => ?_⟩
      have hg : Box y1 y0.heap.size #[.int .i64 0, .int .i64 0, .int .i64 0, .int .i64 0, .slice none 0 0, .int .i64 0, .int .i64 0, .int .i64 0, .slice none 0 0] 37 := hw ▸ Box.new _ _ _
      have hh : Below y0.heap.size y0 y1 := hw ▸ ((Below.refl _ _).alloc (Nat.le_refl _) _)
      have s1 : y0.heap.size < y1.heap.size := hw ▸ (by simp)
      clear hw
      replace hD := hD.trans (hh.mono hV.size)
      replace hV := hV.trans (hh.mono hV.size)
      replace hQ := hQ.below (hh.mono (by omega)) (Nat.le_refl _)
      clear hh
      refine wpAny_oneM 12 5242879 (by kernel_rfl) (by kernel_rfl) (of_decide_eq_true (by kernel_rfl)) (by rfl) ?_
      simp only [List.getD_cons_succ, List.getD_cons_zero]
      go_wp2_with fail
      refine ⟨fun h => absurd h (by decide), nameAny fun y2 hw => ?_⟩
      have row : Row Rep.int 3 y1.heap.size y2 (some y1.heap.size) (.slice (some ⟨y1.heap.size, 0, none⟩) 0 0) [] := hw ▸ Row.empty Rep.int 3 y1
      have hh : Below y1.heap.size y1 y2 := hw ▸ ((Below.refl _ _).alloc (Nat.le_refl _) _)
      have s2 : y1.heap.size < y2.heap.size := hw ▸ (by simp)
      clear hw
      replace hg := hg.next hh
      replace hD := hD.trans (hh.mono hV.size)
      replace hV := hV.trans (hh.mono hV.size)
      replace hQ := hQ.below (hh.mono (by omega)) (Nat.le_refl _)
      clear hh
      have hap : Apart (some y1.heap.size) (some y0.heap.size) := fun q h1 h2 => by cases h1; injection h2; omega
      have hap0 := hap
      refine wpAny_oneM 20 6291455 (by kernel_rfl) (by kernel_rfl) (of_decide_eq_true (by kernel_rfl)) (by rfl) ?_
      simp only [List.getD_cons_succ, List.getD_cons_zero]
      refine wpList_rowS (r := Rep.int) flat_int rfl (.tmp 17) (.tmp 24) 35 rfl y1.heap.size 3 Try.infoInt Try.underlying35 rfl (by omega) _ _ rfl row (by omega) rfl hQ (by simp only [List.length_nil]; omega) ?_
      intro v5 y3 b5 row5 hgr hb5 ha5
      clear row
      have row := row5; clear row5
      rw [List.nil_append] at row
      obtain ⟨A5, y5, rfl, _, _⟩ := row.form
      have s3 := hb5.size
      replace hap := apart_box hap hg.lt ha5
      have hg5 : Box y3 y0.heap.size #[.int .i64 0, .int .i64 0, .int .i64 0, .int .i64 0, .slice none 0 0, .int .i64 0, .int .i64 0, .int .i64 0, .slice none 0 0] 37 := (hgr.block _ hg.lt (fun he => hap0 _ he.symm rfl)).trans hg
      clear hg
      have hg := hg5; clear hg5
      replace hV := hV.trans (hb5.mono (by omega))
      replace hD := hD.trans (hb5.mono (by omega))
      have hE := Ext.below hD (by simp)
      clear hb5 hgr ha5
      go_wp2_with fail
      refine ⟨fun _ => hE, ?_⟩
      obtain ⟨g0, g1, g2, g3, g4, g5, g6, g7, g8⟩ := nine_cells hg
      obtain ⟨f0, f1, f2, f3, f4, f5, f6, f7, f8⟩ := nine_free hg
      refine wpAny_go 1048576 6291455 [21, 23] 16777215 0 (by kernel_rfl) (by kernel_rfl) (fun _ _ _ _ _ h => h) (by kernel_rfl) (by rfl) (by rfl) (by kernel_rfl) ?_
      simp only [List.map_cons, List.map_nil, List.getD_cons_succ, List.getD_cons_zero]
      go_wp2_with fail
      change wpAnyM _ _ _ _ _ _ _ _ _ _
      clear g0 g1 g2 g3 g4 g5 g6 g7 g8 f0 f1 f2 f3 f4 f5 f6 f7 f8
      refine wpAny_endM (by kernel_rfl) (by kernel_rfl) ?_
      go_wp2_with fail
      go_meet
      exact CutPost.early row (by omega) hV hg (by omega) hap
  case rest =>
    obtain ⟨g, A3, y3, rfl, hg1, bg, hpath, hV⟩ := hcut
    obtain ⟨W1, rfl⟩ : ∃ x : World, x = wc := ⟨_, rfl⟩
    have HBX := Lib.hid bx; have HB2 := Lib.hid b2; have HP1 := Lib.hid h1; have HPATH := Lib.hid hpath; have HBB := Lib.hid hB; have hE2 : w.heap.size + 1 < W0.heap.size := b2.lt
    have HE2 := Lib.hid hE2
    have hgl := bg.lt
    have HGL := Lib.hid hgl; have HG1 := Lib.hid hg1
    obtain ⟨_, _, he, hpl, hpm, _⟩ := id h1
    cases he
    unfold maxLen at hpm
    clear bx b2 h1 h2 hB hpath hE2 hcl hm0 hm1 hgl
    go_wp2_with fail
    go_loopg [4] ps.length (fun kk iv wr => ∃ (j : Nat) (u : Value), iv = .int .i64 (j : Int) ∧ j ≤ ps.length ∧ j ≤ 7 ∧ kk = ps.length - j ∧ Acc Rep.piece 79 W1.heap.size wr u ((ps.take j).map Pc.cut) ∧ Box wr g #[.int .i64 k, .int .i64 e, .int .i64 s, .int .i64 t, u, .int .i64 i, .int .i64 n, .int .i64 c, .slice A3 cp.length y3] 37 ∧ Below W0.heap.size W0 wr ∧ CutKeep g W1 wr)
    case atStart => exact ⟨0, _, rfl, by omega, by omega, by omega, Acc.nil _ _ _ _, bg, hV, CutKeep.refl _ _⟩
    case round =>
      clear bg hV
      obtain ⟨j, u, rfl, hj, hj7, hk, hacc, bg, hV, hkp⟩ := hrel
      have HK := Lib.hid hk; clear hk
      obtain ⟨UA, uc, rfl, hul, hum, _⟩ := id hacc.slice
      have hlj : ((ps.take j).map Pc.cut).length = j := by simp; omega
      rw [hlj] at hacc bg hul
      have HLJ := Lib.hid hlj; clear hlj
      have hd := hV.drew
      have bxd : Box wr.drew w.heap.size #[.int .i64 k, .int .i64 e, .int .i64 s, .int .i64 t, .slice A ps.length x, .int .i64 i, .int .i64 n, .int .i64 c, .slice B p.length y] 37 := (hd.block _ HBX.out.lt).trans HBX.out
      have hnul : ((ps.take j).map Pc.cut).length ≤ 1000000 := by rw [List.length_map, List.length_take]; omega
      by_cases hlt : j < ps.length
      ·
        by_cases h7 : (j : Int) < 7
        ·
          obtain ⟨x, hx⟩ := Pc.get_at hlt
          have hBw := HBB.out.trans (hd.mono HBB.out.size)
          obtain ⟨gp, o, a3, a4, a5, he, _, hgp, c0, c1, c2, c3, c4, c5, hp⟩ := (HP1.out.below hBw (Nat.le_refl _)).arr.piece hx
          subst he
          have htk : (ps.take (j + 1)).map Pc.cut = (ps.take j).map Pc.cut ++ [Pc.cut x] := by rw [Pc.take_next hx, List.map_append]; rfl
          have HT := Lib.hid htk; clear htk hx
          obtain ⟨_, _, _, he, ⟨Q3, q3, rfl, _⟩, ⟨Q4, q4, rfl, _⟩, ⟨Q5, q5, rfl, _⟩⟩ := id hp
          cases he
          have hpw := hp.widen (Nat.le_refl 0) hBw.size
          have HPW := Lib.hid hpw; clear hp hpw
          have hbx0 := (hV.block _ HBX.out.lt).trans HBX.out
          obtain ⟨k0, k1, k2, k3, k4, k5, k6, k7, k8⟩ := nine_cells hbx0
          go_upto_region 5 with fail
          clear k0 k1 k2 k3 k4 k5 k6 k7 k8
          have bgd := bg.next ((Below.refl _ _).drew)
          have haccd := hacc.below ((Below.refl wr.heap.size wr).drew)
          have hE := Ext.refl wr.drew
          refine region_go 128 (by kernel_rfl) ?_
          obtain ⟨d0, d1, d2, d3, d4, d5, d6, d7, d8⟩ := nine_cells bxd
          refine wpAny_go 128 0 [2, 3, 4, 5, 6] 124 7 (by kernel_rfl) (by kernel_rfl) (fun _ _ _ _ _ h => h) (by kernel_rfl) (by rfl) (by rfl) (by kernel_rfl) ?_
          simp only [List.map_cons, List.map_nil, List.getD_cons_succ, List.getD_cons_zero]
          go_wp2_with fail
          change wpAnyM _ _ _ _ _ _ _ _ _ _
          clear d0 d1 d2 d3 d4 d5 d6 d7 d8
          clear c0 c1 c2 c3 c4 c5
          obtain ⟨d0, d1, d2, d3, d4, d5, d6, d7, d8⟩ := nine_cells bgd
          refine wpAny_reads 128 124 [0, 1] 127 5 (by kernel_rfl) (by kernel_rfl) (fun _ _ _ _ _ h => h) (by kernel_rfl) (by rfl) (by rfl) (by kernel_rfl) ?_
          simp only [List.map_cons, List.map_nil, List.getD_cons_succ, List.getD_cons_zero]
          go_wp2_with fail
          change _ → wpAnyM _ _ _ _ _ _ _ _ _ _; intro _
          clear d0 d1 d2 d3 d4 d5 d6 d7 d8
          refine wpAny_oneM 7 255 (by kernel_rfl) (by kernel_rfl) (of_decide_eq_true (by kernel_rfl)) (by rfl) ?_
          simp only [List.getD_cons_succ, List.getD_cons_zero]
          go_wp2_with fail
          refine (cut6_any _ x _ HPW.out).mono ?_
          rintro z w2 ⟨⟨v2, rfl, hu2⟩, hh⟩
          replace bgd := bgd.next hh
          replace hE := hE.trans (Ext.below hh (Nat.le_refl _))
          obtain ⟨cs, rfl, hcs⟩ := hu2.cells
          have hcs0 := hcs
          obtain ⟨r3, r4, r5, rfl, ⟨R3, t3, rfl, _⟩, ⟨R4, t4, rfl, _⟩, ⟨R5, t5, rfl, _⟩⟩ := hcs0
          have HCS := Lib.hid hcs; clear hcs hu2
          go_wp2_with fail
          refine ⟨fun _ => hE, ?_⟩
          refine wpAny_go 128 255 [8] 511 3 (by kernel_rfl) (by kernel_rfl) (fun _ _ _ _ _ h => h) (by kernel_rfl) (by rfl) (by rfl) (by kernel_rfl) ?_
          simp only [List.map_cons, List.map_nil, List.getD_cons_succ, List.getD_cons_zero]
          go_wp2_with fail
          change wpAnyM _ _ _ _ _ _ _ _ _ _
          refine wpAny_oneM 9 1023 (by kernel_rfl) (by kernel_rfl) (of_decide_eq_true (by kernel_rfl)) (by rfl) ?_
          simp only [List.getD_cons_succ, List.getD_cons_zero]
          refine wpList_accB (r := Rep.piece) (w0 := wr.drew) (y := Pc.cut x) rfl (.tmp 39) (.tmp 46) 34 rfl W1.heap.size 79 Try.infoPiece Try.underlying34 rfl (by omega) (.slice UA j uc) rfl haccd (fun b h1 h2 => hh.block b h2) hh.size hkp.1 1 _ _ rfl rfl HCS.out hnul ?_
          intro v9 w9 hacc9 hgr9 hb9
          obtain ⟨NA, nc, rfl, _, _, _⟩ := id hacc9.slice
          have hl1 : ((ps.take j).map Pc.cut ++ [Pc.cut x]).length = j + 1 := by rw [List.length_append, HLJ.out]; rfl
          rw [hl1] at hacc9 ⊢
          clear hl1
          have hg9 : Box w9 g _ _ := (hb9.block g HGL.out).trans bgd
          have hV2 : Below W0.heap.size W0 w2 := hd.trans (hh.mono hd.size)
          have hV9 : Below W0.heap.size W0 w9 := hV2.trans (hb9.mono (Nat.le_trans HG1.out (Nat.le_of_lt HGL.out)))
          have hk9 : CutKeep g W1 w9 := ⟨Nat.le_trans hkp.1 (Nat.le_trans hh.size hb9.size), fun q h1 h2 => (hb9.block q h2).trans ((hh.block q (Nat.lt_of_lt_of_le h2 hkp.1)).trans (hkp.2 q h1 h2))⟩
          clear hacc haccd bg bgd hb9 hgr9 hh HCS HPW hV2 hkp hd bxd hE
          go_wp2_with fail
          refine ⟨fun h => absurd h (by decide), ?_⟩
          obtain ⟨d0, d1, d2, d3, d4, d5, d6, d7, d8⟩ := nine_cells hg9
          obtain ⟨f0, f1, f2, f3, f4, f5, f6, f7, f8⟩ := nine_free hg9
          refine wpAny_go 128 1023 [10, 11] 4095 0 (by kernel_rfl) (by kernel_rfl) (fun _ _ _ _ _ h => h) (by kernel_rfl) (by rfl) (by rfl) (by kernel_rfl) ?_
          simp only [List.map_cons, List.map_nil, List.getD_cons_succ, List.getD_cons_zero]
          go_wp2_with fail
          change wpAnyM _ _ _ _ _ _ _ _ _ _
          clear d0 d1 d2 d3 d4 d5 d6 d7 d8 f0 f1 f2 f3 f4 f5 f6 f7 f8
          refine nameAny fun V hV0 => ?_
          have bgV : Box V g #[.int .i64 k, .int .i64 e, .int .i64 s, .int .i64 t, (.slice NA (j + 1) nc), .int .i64 i, .int .i64 n, .int .i64 c, .slice A3 cp.length y3] 37 := by rw [← hV0]; exact blk_set hg9 4 _
          have hVV : Below W0.heap.size W0 V := by rw [← hV0]; exact hV9.setCell HG1.out _
          have hkV : CutKeep g W1 V := by rw [← hV0]; exact ⟨by simpa [World.setCell] using hk9.1, fun q h1 h2 => (heap_setCell_other _ _ _ _ h1).trans (hk9.2 q h1 h2)⟩
          have haV : Acc Rep.piece 79 W1.heap.size V (.slice NA (j + 1) nc) ((ps.take j).map Pc.cut ++ [Pc.cut x]) := by rw [← hV0]; exact hacc9.move (fun q h1 _ => heap_setCell_other _ _ _ _ (Nat.ne_of_gt (Nat.lt_of_lt_of_le HGL.out h1))) (by simp [World.setCell])
          rw [← HT.out] at haV
          clear hV0 hg9 hV9 hk9 hacc9
          refine wpAny_endM (by kernel_rfl) (by kernel_rfl) ?_
          go_wp2_with fail
          go_roundg (ps.length - (j + 1))
          case rel => exact ⟨j + 1, _, by simp, by omega, by omega, rfl, haV, bgV, hVV, hkV⟩
          case measure => have := HK.out; omega
        ·
          have hpc : (ps.take j).map Pc.cut = (ps.take 7).map Pc.cut := by rw [show j = 7 by omega]
          rw [hpc] at hacc
          have b2r : Box wr (w.heap.size + 1) #[.int .i64 0, .int .i64 0, .int .i64 0, .int .i64 0, .slice none 0 0, .int .i64 0, .int .i64 0, .int .i64 0, .slice none 0 0] 37 := (hV.block _ HE2.out).trans HB2.out
          have hbx0 := (hV.block _ HBX.out.lt).trans HBX.out
          obtain ⟨k0, k1, k2, k3, k4, k5, k6, k7, k8⟩ := nine_cells hbx0
          obtain ⟨d0, d1, d2, d3, d4, d5, d6, d7, d8⟩ := nine_cells bg
          obtain ⟨g0, g1, g2, g3, g4, g5, g6, g7, g8⟩ := nine_cells b2r
          obtain ⟨f0, f1, f2, f3, f4, f5, f6, f7, f8⟩ := nine_free b2r
          have HA9 := Lib.hid hacc; have HV9 := Lib.hid hV; have HK9 := Lib.hid hkp; have HR9 := Lib.hid b2r; clear hacc hV hkp b2r hd bxd hpc
          go_wp2_with fail
          have r := nine_box (a0 := .int .i64 k) (a1 := .int .i64 e) (a2 := .int .i64 s) (a3 := .int .i64 t) (a4 := .slice UA j uc) (a5 := .int .i64 i) (a6 := .int .i64 n) (a7 := .int .i64 c) (a8 := .slice A3 cp.length y3) HR9.out
          have hfar := fun (q : Nat) (hq : q ≠ w.heap.size + 1) => nine_far (w := wr) (b := w.heap.size + 1) (a0 := .int .i64 k) (a1 := .int .i64 e) (a2 := .int .i64 s) (a3 := .int .i64 t) (a4 := .slice UA j uc) (a5 := .int .i64 i) (a6 := .int .i64 n) (a7 := .int .i64 c) (a8 := .slice A3 cp.length y3) hq
          have hz := nine_size (w := wr) (b := w.heap.size + 1) (a0 := .int .i64 k) (a1 := .int .i64 e) (a2 := .int .i64 s) (a3 := .int .i64 t) (a4 := .slice UA j uc) (a5 := .int .i64 i) (a6 := .int .i64 n) (a7 := .int .i64 c) (a8 := .slice A3 cp.length y3)
          have hbl := nine_below (b := w.heap.size + 1) (a0 := .int .i64 k) (a1 := .int .i64 e) (a2 := .int .i64 s) (a3 := .int .i64 t) (a4 := .slice UA j uc) (a5 := .int .i64 i) (a6 := .int .i64 n) (a7 := .int .i64 c) (a8 := .slice A3 cp.length y3) (HBB.out.trans (HV9.out.mono HBB.out.size)) (Nat.le_succ _)
          unfold wnine at r
          clear g0 g1 g2 g3 g4 g5 g6 g7 g8
          obtain ⟨g0, g1, g2, g3, g4, g5, g6, g7, g8⟩ := nine_cells r
          refine bodyPost_ret (v := .agg #[.int .i64 k, .int .i64 e, .int .i64 s, .int .i64 t, .slice UA j uc, .int .i64 i, .int .i64 n, .int .i64 c, .slice A3 cp.length y3]) (by simp [results, Try.results18, go_sem, g0, g1, g2, g3, g4, g5, g6, g7, g8]) rfl ⟨⟨_, rfl, ?_⟩, hbl⟩
          rw [HFC.out]
          have hw0 := HBB.out.size; have hw1 := HE2.out; have hw2 := HG1.out; have hw3 := HGL.out; have hw4 := HK9.out.1
          refine FrIs.of (f := ⟨k, e, s, t, (ps.take 7).map Pc.cut, i, n, c, cp⟩) ?_ ?_
          · exact (HA9.out.slice.soft.keep fun q hq1 _ => hfar q (by omega)).widen (by omega) (Nat.le_of_eq hz.symm)
          · exact SliceOn.is_ (((HPATH.out.keep fun q hq => HK9.out.2 q hq.2.2 hq.2.1).keep fun q hq => hfar q (by omega)).widen fun q hq => ⟨by omega, Nat.lt_of_lt_of_le (Nat.lt_of_lt_of_le hq.2.1 hw4) (Nat.le_of_eq hz.symm)⟩)
      ·
        have hpc : (ps.take j).map Pc.cut = (ps.take 7).map Pc.cut := by rw [List.take_of_length_le (show ps.length ≤ j by omega), List.take_of_length_le (show ps.length ≤ 7 by omega)]
        rw [hpc] at hacc
        have b2r : Box wr (w.heap.size + 1) #[.int .i64 0, .int .i64 0, .int .i64 0, .int .i64 0, .slice none 0 0, .int .i64 0, .int .i64 0, .int .i64 0, .slice none 0 0] 37 := (hV.block _ HE2.out).trans HB2.out
        have hbx0 := (hV.block _ HBX.out.lt).trans HBX.out
        obtain ⟨k0, k1, k2, k3, k4, k5, k6, k7, k8⟩ := nine_cells hbx0
        obtain ⟨d0, d1, d2, d3, d4, d5, d6, d7, d8⟩ := nine_cells bg
        obtain ⟨g0, g1, g2, g3, g4, g5, g6, g7, g8⟩ := nine_cells b2r
        obtain ⟨f0, f1, f2, f3, f4, f5, f6, f7, f8⟩ := nine_free b2r
        have HA9 := Lib.hid hacc; have HV9 := Lib.hid hV; have HK9 := Lib.hid hkp; have HR9 := Lib.hid b2r; clear hacc hV hkp b2r hd bxd hpc
        go_wp2_with fail
        have r := nine_box (a0 := .int .i64 k) (a1 := .int .i64 e) (a2 := .int .i64 s) (a3 := .int .i64 t) (a4 := .slice UA j uc) (a5 := .int .i64 i) (a6 := .int .i64 n) (a7 := .int .i64 c) (a8 := .slice A3 cp.length y3) HR9.out
        have hfar := fun (q : Nat) (hq : q ≠ w.heap.size + 1) => nine_far (w := wr) (b := w.heap.size + 1) (a0 := .int .i64 k) (a1 := .int .i64 e) (a2 := .int .i64 s) (a3 := .int .i64 t) (a4 := .slice UA j uc) (a5 := .int .i64 i) (a6 := .int .i64 n) (a7 := .int .i64 c) (a8 := .slice A3 cp.length y3) hq
        have hz := nine_size (w := wr) (b := w.heap.size + 1) (a0 := .int .i64 k) (a1 := .int .i64 e) (a2 := .int .i64 s) (a3 := .int .i64 t) (a4 := .slice UA j uc) (a5 := .int .i64 i) (a6 := .int .i64 n) (a7 := .int .i64 c) (a8 := .slice A3 cp.length y3)
        have hbl := nine_below (b := w.heap.size + 1) (a0 := .int .i64 k) (a1 := .int .i64 e) (a2 := .int .i64 s) (a3 := .int .i64 t) (a4 := .slice UA j uc) (a5 := .int .i64 i) (a6 := .int .i64 n) (a7 := .int .i64 c) (a8 := .slice A3 cp.length y3) (HBB.out.trans (HV9.out.mono HBB.out.size)) (Nat.le_succ _)
        unfold wnine at r
        clear g0 g1 g2 g3 g4 g5 g6 g7 g8
        obtain ⟨g0, g1, g2, g3, g4, g5, g6, g7, g8⟩ := nine_cells r
        refine bodyPost_ret (v := .agg #[.int .i64 k, .int .i64 e, .int .i64 s, .int .i64 t, .slice UA j uc, .int .i64 i, .int .i64 n, .int .i64 c, .slice A3 cp.length y3]) (by simp [results, Try.results18, go_sem, g0, g1, g2, g3, g4, g5, g6, g7, g8]) rfl ⟨⟨_, rfl, ?_⟩, hbl⟩
        rw [HFC.out]
        have hw0 := HBB.out.size; have hw1 := HE2.out; have hw2 := HG1.out; have hw3 := HGL.out; have hw4 := HK9.out.1
        refine FrIs.of (f := ⟨k, e, s, t, (ps.take 7).map Pc.cut, i, n, c, cp⟩) ?_ ?_
        · exact (HA9.out.slice.soft.keep fun q hq1 _ => hfar q (by omega)).widen (by omega) (Nat.le_of_eq hz.symm)
        · exact SliceOn.is_ (((HPATH.out.keep fun q hq => HK9.out.2 q hq.2.2 hq.2.1).keep fun q hq => hfar q (by omega)).widen fun q hq => ⟨by omega, Nat.lt_of_lt_of_le (Nat.lt_of_lt_of_le hq.2.1 hw4) (Nat.le_of_eq hz.symm)⟩)
end Go.Proofs.Ytkkbblpofhenpaa

/- The document's get. -/
namespace Go.Proofs.Ytkkbblpofhenpaa
open Go.RowKit

namespace Fr
/-- The number at a place, and the place behind it; 0 and the same place, if there is none. -/
def g2 (l : List UInt8) (at_ : Nat) : Nat × Nat := match W.rd (l.drop at_) 0 0 with
  | .bad _ => (0, at_)
  | .ok n i => (n, at_ + i)
end Fr

end Go.Proofs.Ytkkbblpofhenpaa

/- A report's bytes, read again. Nothing of the program. -/
namespace Go.Proofs.Ytkkbblpofhenpaa
namespace Fr
/-- Where the pieces' bytes begin. -/
def hd (f : Fr) : Nat := (W.puts [5, f.epoch, (f.pieces.length : Int)]).length
/-- Where piece j's bytes begin. -/
def off (f : Fr) (j : Nat) : Nat := hd f + (texts (f.pieces.take j)).length
end Fr
end Go.Proofs.Ytkkbblpofhenpaa

/- word.Get and the place behind, whatever the bytes. -/
namespace Go.Proofs.Ytkkbblpofhenpaa
open Go.RowKit

namespace Fr
/-- word.Get's three answers at a place. -/
def g3 (l : List UInt8) (at_ : Nat) : Nat × Nat × Nat := match W.rd (l.drop at_) 0 0 with
  | .bad e => (0, 0, e)
  | .ok n i => (n, at_ + i, 0)
/-- Take's three answers at a place. -/
def t3 (l : List UInt8) (at_ : Nat) (top : Int) : List UInt8 × Nat × Nat := match W.take (l.drop at_) top with
  | .bad e => ([], 0, e)
  | .ok t j => (t, at_ + j, 0)
end Fr
end Go.Proofs.Ytkkbblpofhenpaa

/- append(s, make([]T, k)...) onto a row of the call's own, whether there is room or not. Nothing of the program. -/
namespace Go.Proofs.Ytkkbblpofhenpaa
open Go.RowKit

theorem run_append_room_zeros {P : Program} (w : World) (t tn ty e : TypeId) (i : TypeInfo) (z : Value) (kq kn : IntKind) (ht : P.underlying t = some (.slice e)) (htn : P.underlying tn = some (.int kn)) (hi : P.info? e = some i) (hz : i.zero = some z) (hzs : z.cells.size = i.size) (hs : 0 < i.size)
    (g sLen sCap : Nat) (cur : Array Value) (hg : w.heap[g]? = some (.cells cur e (0, 0))) (k : Nat) (h0 : 0 < k) (h1 : ∀ u ∈ (Builtin.zeroCells z.cells k).toList, u.oneCell' = true)
    (hroom : sLen + k ≤ sCap) (hfit : sLen * i.size + k * i.size ≤ cur.size) (h63 : (k : Int) ≤ 9223372036854775807) (h48 : k * i.bytes ≤ 281474976710656) :
    (Builtin.append_ #[t, tn] ty #[.slice (some ⟨g, 0, none⟩) sLen sCap, .int kq k]).run P w =
      .ok (.slice (some ⟨g, 0, none⟩) (sLen + k) sCap) (w.setRow g (cur.toList.take (sLen * i.size) ++ (Builtin.zeroCells z.cells k).toList ++ cur.toList.drop (sLen * i.size + k * i.size)).toArray) := by
  have hl : (Builtin.zeroCells z.cells k).toList.length = k * i.size := by rw [Array.length_toList, size_zeroCells, hzs]
  have hst := run_storeCells_at P g (sLen * i.size) e (Builtin.zeroCells z.cells k).toList 0 cur w hg (by rw [hl]; simpa using hfit) h1
  rw [hl] at hst
  simp only [Nat.add_zero] at hst
  have hk : k ≠ 0 := by omega
  have hw : IntKind.i64.wrap (k : Int) = k := by rw [IntKind.wrap_i64]; omega
  have h48i : ¬ (281474976710656 < (k : Int) * (i.bytes : Int)) := by
    rw [← Int.natCast_mul]
    omega
  have hneg : ¬ ((k : Int) < 0) := by omega
  have hns : ¬ (k * i.size = 0) := Nat.mul_ne_zero hk (by omega)
  simp [Builtin.append_, run_underlying ht, run_underlying htn, sizeOf, typeInfo, zeroValue, hi, hz, asInt, asIntOf, hw, hroom, hneg, hns, h48i, Addr.add_lit, hst]

theorem run_append_own_zeros {P : Program} (w : World) (base : Nat) (t tn ty e : TypeId) {z : Value} {size bytes : Nat} (kq kn : IntKind) (hinfo : (P.info? e).map (fun i => (i.zero, i.size, i.bytes)) = some (some z, size, bytes)) (ht : P.underlying t = some (.slice e)) (htn : P.underlying tn = some (.int kn))
    (hzs : z.cells.size = size) (hsz : 0 < size) (v : Value) (n : Nat) (xs : List Value) (hown : w.ownsRow base e size v n xs) (k : Nat) (h0 : 0 < k) (news : List Value) (hnew : (Builtin.zeroCells z.cells k).toList = news) (h1 : ∀ u ∈ news, u.oneCell' = true)
    (h63 : n + k ≤ maxLen) (hbytes : (n + k) * bytes ≤ 140737488355328) (hbase : base ≤ w.heap.size) :
    ∃ v' w', (Builtin.append_ #[t, tn] ty #[v, .int kq k]).run P w = .ok v' w' ∧ w'.ownsRow base e size v' (n + k) (xs ++ news) ∧ w.grownBy w' v.ownBlock ∧
      (v'.ownBlock = v.ownBlock ∨ v'.ownBlock = some w.heap.size) := by
  obtain ⟨i, hi, hz, rfl, rfl⟩ := info_parts hinfo
  subst hnew
  have hsmall : n + k ≤ 9223372036854775807 := by simp only [maxLen] at h63; omega
  have hl : (Builtin.zeroCells z.cells k).toList.length = k * i.size := by rw [Array.length_toList, size_zeroCells, hzs]
  have hlen : (xs ++ (Builtin.zeroCells z.cells k).toList).length = (n + k) * i.size := by rw [List.length_append, hown.1, hl, Nat.add_mul]
  have hkb : k * i.bytes ≤ (n + k) * i.bytes := Nat.mul_le_mul_right _ (by omega)
  have grown : ∀ (old : Nat), old < n + k → ∀ (row : Option Nat),
      (w.drew.alloc (.cells (xs.toArray ++ Builtin.zeroCells z.cells k ++ Builtin.zeroCells z.cells (grownCap w (n + k) old e - (n + k))) e)).ownsRow base e i.size
        (.slice (some ⟨w.heap.size, 0, none⟩) (n + k) (grownCap w (n + k) old e)) (n + k) (xs ++ (Builtin.zeroCells z.cells k).toList) ∧
      w.grownBy (w.drew.alloc (.cells (xs.toArray ++ Builtin.zeroCells z.cells k ++ Builtin.zeroCells z.cells (grownCap w (n + k) old e - (n + k))) e)) row := by
    intro old ho row
    have hge := grownCap_ge w (n + k) old e
    have hcm : grownCap w (n + k) old e ≤ maxLen := grownCap_le_maxLen w (n + k) old e h63
    refine ⟨⟨hlen, .inr ⟨w.heap.size, _, _, rfl, hbase, heap_alloc_new w.drew _, hge, hcm, ?_, ?_⟩⟩, ⟨rfl, rfl, rfl, by simp, fun q hq _ => heap_alloc_old w.drew _ hq⟩⟩
    · simp only [Array.size_append, List.size_toArray, size_zeroCells, hzs, hown.1, ← Nat.add_mul]
      congr 1
      omega
    · simp only [Array.toList_append, List.append_assoc]
      rw [← List.append_assoc, ← hlen]
      exact List.take_left
  rcases hown.2 with ⟨rfl, rfl⟩ | ⟨g, cap, cur, rfl, hbg, hg, hnc, hcm, hcs, htake⟩
  · have hx : xs = [] := List.eq_nil_of_length_eq_zero (by simpa using hown.1)
    subst hx
    have hr := Lib.run_append_nil_zeros (P := P) w t tn ty e i z kq kn ht htn hi hz k h0 hsz (by omega) (by omega)
    have hgr := grown 0 (by omega) (Value.ownBlock (.slice none 0 0))
    simp only [Nat.zero_add, List.nil_append, Array.empty_append] at hgr ⊢
    exact ⟨_, _, hr, hgr.1, hgr.2, .inr rfl⟩
  · by_cases hroom : n + k ≤ cap
    · have hfit : n * i.size + k * i.size ≤ cur.size := by rw [hcs, ← Nat.add_mul]; exact Nat.mul_le_mul_right _ hroom
      have hr := run_append_room_zeros (P := P) w t tn ty e i z kq kn ht htn hi hz hzs hsz g n cap cur hg k h0 h1 hroom hfit (by omega) (by omega)
      refine ⟨_, _, hr, ⟨hlen, .inr ⟨g, cap, _, rfl, hbg, setRow_heap w g cur _ e _ hg, hroom, hcm, ?_, ?_⟩⟩, ⟨rfl, rfl, rfl, by simp, fun k _ hk => setRow_other w g k _ (fun e => hk (by simp [Value.ownBlock, e]))⟩, .inl rfl⟩
      · simp only [List.size_toArray, List.length_append, List.length_take, List.length_drop, Array.length_toList, size_zeroCells, hzs]
        omega
      · rw [htake, ← hlen]
        exact List.take_left
    · have holds : ∀ j u, xs[j]? = some u → w.cell? ((⟨g, 0, none⟩ : Addr).add j) = some u := hown.cells (g := g) rfl
      have hold := run_firstCells_some (P := P) w.drew i.size n ⟨g, 0, none⟩ n cap xs hown.1 (by simpa using holds)
      have hr := Lib.run_append_grow_zeros (P := P) w t tn ty e i z kq kn ht htn hi hz (some ⟨g, 0, none⟩) n cap xs hold k h0 hsz (by omega) (by omega) (by omega) (growslice_fits (by omega) hbytes)
      have hgr := grown cap (by omega) (Value.ownBlock (.slice (some ⟨g, 0, none⟩) n cap))
      exact ⟨_, _, hr, hgr.1, hgr.2, .inr rfl⟩

section
variable {P : Program} {w : World} {ops : Array Oper} {rest : List Oper} {o : Oper} {a : Act} {Q : Exit → Act → World → Prop}
/-- The walk's step. -/
theorem wpList_append_zeros (hgd : o.guard = none) (s x : Operand) (t tn : TypeId) (ho : o.op = .call { callee := .builtin .append, args := #[s, x], argTypes := #[t, tn] })
    (base : Nat) (e : TypeId) {z : Value} {size bytes : Nat} (kq kn : IntKind) (hinfo : (P.info? e).map (fun i => (i.zero, i.size, i.bytes)) = some (some z, size, bytes)) (ht : P.underlying t = some (.slice e)) (htn : P.underlying tn = some (.int kn))
    (hzs : z.cells.size = size) (hsz : 0 < size) (v : Value) (n : Nat) (xs : List Value) (hs : a.eval s = v) (hown : w.ownsRow base e size v n xs) (k : Nat) (h0 : 0 < k) (hx : a.eval x = .int kq k) (news : List Value) (hnew : (Builtin.zeroCells z.cells k).toList = news) (h1 : ∀ u ∈ news, u.oneCell' = true)
    (h63 : n + k ≤ maxLen) (hbytes : (n + k) * bytes ≤ 140737488355328) (hbase : base ≤ w.heap.size)
    (h : ∀ v' w', w'.ownsRow base e size v' (n + k) (xs ++ news) → w.grownBy w' v.ownBlock → Below base w w' → (v'.ownBlock = v.ownBlock ∨ v'.ownBlock = some w.heap.size) → wpList P ops Q rest (a.put o.dst v') w') : wpList P ops Q (o :: rest) a w := by
  obtain ⟨v', w', hr, h2, h3, h4⟩ := run_append_own_zeros (P := P) w base t tn o.type e kq kn hinfo ht htn hzs hsz v n xs hown k h0 news hnew h1 h63 hbytes hbase
  have hb : Below base w w' := ⟨h3.os, h3.tape, h3.output, h3.size, fun q hq => h3.block q (Nat.lt_of_lt_of_le hq hbase) (fun he => by have := (hown.lt q he.symm).1; omega)⟩
  exact Lib.wpList_append_run w hgd s x t tn ho v (.int kq k) hs hx v' w' hr (h v' w' h2 h3 hb h4)
end
end Go.Proofs.Ytkkbblpofhenpaa

/- frame.numbers. -/
namespace Go.Proofs.Ytkkbblpofhenpaa
open Go.RowKit

theorem drew_block (w : World) (q : Nat) : w.drew.heap[q]? = w.heap[q]? := rfl
theorem SliceIs.head_ {α : Type} {r : Rep α} {fr : Bool} {w : World} {lo hi n c k : Nat} {A : Option Addr} {xs : List α} (h : SliceIs r fr w lo hi (.slice A n c) xs) (hk : k ≤ xs.length) : SliceIs r fr w lo hi (.slice A k c) (xs.take k) := by
  obtain ⟨_, _, he, h1, h2, h3⟩ := h
  cases he
  exact ⟨_, _, by rw [List.length_take, Nat.min_eq_left hk], by rw [List.length_take]; omega, h2, h3.take k⟩
theorem SliceIs.tail_ {α : Type} {r : Rep α} {fr : Bool} {w : World} {lo hi n c g o k : Nat} {xs : List α} (h : SliceIs r fr w lo hi (.slice (some ⟨g, o, none⟩) n c) xs) (hk : k ≤ xs.length) :
    SliceIs r fr w lo hi (.slice (if c = k then some ⟨g, o, none⟩ else some ⟨g, o + k * r.size, none⟩) (n - k) (c - k)) (xs.drop k) := by
  obtain ⟨A, c', he, h1, h2, cells, h3, h4⟩ := h
  cases he
  refine ⟨_, _, by rw [List.length_drop], by rw [List.length_drop]; omega, by omega, cells.drop (k * r.size), Rep.all_drop k h3, fun hpos => ?_⟩
  rw [List.length_drop] at hpos
  obtain ⟨g', o', he, hS, hc⟩ := h4 (by omega)
  cases he
  refine ⟨g, o + k * r.size, by rw [if_neg (by omega)], hS, fun j u hj => ?_⟩
  rw [List.getElem?_drop] at hj
  have := hc _ _ hj
  rw [← Nat.add_assoc] at this
  exact this
end Go.Proofs.Ytkkbblpofhenpaa

/- What frames' bytes are decoded to, in plain Lean. Nothing of the program. -/
namespace Go.Proofs.Ytkkbblpofhenpaa
namespace Fr
theorem all_len : ∀ (k : Nat) (l : List UInt8) (r : List Nat), l.length ≤ k → W.all l = .ok r → r.length ≤ l.length := by
  intro k
  induction k with
  | zero =>
    intro l r hl h
    have : l = [] := List.eq_nil_of_length_eq_zero (by omega)
    subst this; rw [W.all_nil] at h; cases h; exact Nat.le_refl _
  | succ k ih =>
    intro l r hl h
    cases hr : W.rd l 0 0 with
    | bad e' =>
      by_cases hn : l = []
      · subst hn; rw [W.all_nil] at h; cases h; exact Nat.le_refl _
      · rw [W.all_bad hn hr] at h; cases h
    | ok n i =>
      have hp := W.rd_pos _ _ _ _ _ hr
      rw [W.all_ok hr] at h
      cases hd : W.all (l.drop i) with
      | bad e' => rw [hd] at h; cases h
      | ok r' =>
        rw [hd] at h
        simp only [W.Alls.pre] at h
        injection h with h
        subst h
        have := ih (l.drop i) r' (by simp; omega) hd
        simp at this ⊢
        omega
end Fr
end Go.Proofs.Ytkkbblpofhenpaa

/- A row of pieces that is written in place, piece by piece. Nothing of the program. -/
namespace Go.Proofs.Ytkkbblpofhenpaa
open Go.RowKit

def wsx (w : World) (g o : Nat) (v0 v1 v2 v3 v4 v5 : Value) : World := (((((w.setCell ⟨g, o, none⟩ v0).setCell ⟨g, o + 1, none⟩ v1).setCell ⟨g, o + 2, none⟩ v2).setCell ⟨g, o + 3, none⟩ v3).setCell ⟨g, o + 4, none⟩ v4).setCell ⟨g, o + 5, none⟩ v5
def arr6 (cur : Array Value) (o : Nat) (v0 v1 v2 v3 v4 v5 : Value) : Array Value := (((((cur.setIfInBounds o v0).setIfInBounds (o + 1) v1).setIfInBounds (o + 2) v2).setIfInBounds (o + 3) v3).setIfInBounds (o + 4) v4).setIfInBounds (o + 5) v5
section
variable {w : World} {g o : Nat} {v0 v1 v2 v3 v4 v5 : Value} {cur : Array Value}
theorem arr6_size : (arr6 cur o v0 v1 v2 v3 v4 v5).size = cur.size := by simp [arr6]
theorem arr6_out {k : Nat} (hk : k < o ∨ o + 6 ≤ k) : (arr6 cur o v0 v1 v2 v3 v4 v5)[k]? = cur[k]? := by
  unfold arr6
  rw [Array.getElem?_setIfInBounds_ne (by omega), Array.getElem?_setIfInBounds_ne (by omega), Array.getElem?_setIfInBounds_ne (by omega), Array.getElem?_setIfInBounds_ne (by omega), Array.getElem?_setIfInBounds_ne (by omega), Array.getElem?_setIfInBounds_ne (by omega)]
theorem arr6_in {i : Nat} {u : Value} (hb : o + 6 ≤ cur.size) (hu : [v0, v1, v2, v3, v4, v5][i]? = some u) : (arr6 cur o v0 v1 v2 v3 v4 v5)[o + i]? = some u := by
  have n : ∀ {a : Array Value} {i j : Nat} {x : Value}, i ≠ j → (a.setIfInBounds i x)[j]? = a[j]? := fun h => Array.getElem?_setIfInBounds_ne h
  have y : ∀ {a : Array Value} {i : Nat} {x : Value}, i < a.size → (a.setIfInBounds i x)[i]? = some x := fun h => Array.getElem?_setIfInBounds_self_of_lt h
  unfold arr6
  match i, hu with
  | 0, hu => cases hu; rw [n (by omega), n (by omega), n (by omega), n (by omega), n (by omega)]; exact y (by omega)
  | 1, hu => cases hu; rw [n (by omega), n (by omega), n (by omega), n (by omega)]; exact y (by simp; omega)
  | 2, hu => cases hu; rw [n (by omega), n (by omega), n (by omega)]; exact y (by simp; omega)
  | 3, hu => cases hu; rw [n (by omega), n (by omega)]; exact y (by simp; omega)
  | 4, hu => cases hu; rw [n (by omega)]; exact y (by simp; omega)
  | 5, hu => cases hu; exact y (by simp; omega)
  | i + 6, hu => simp at hu
theorem wsx_at {T : TypeId} (h : w.heap[g]? = some (.cells cur T (0, 0))) : (wsx w g o v0 v1 v2 v3 v4 v5).heap[g]? = some (.cells (arr6 cur o v0 v1 v2 v3 v4 v5) T (0, 0)) :=
  blk_set (blk_set (blk_set (blk_set (blk_set (blk_set h o v0) (o + 1) v1) (o + 2) v2) (o + 3) v3) (o + 4) v4) (o + 5) v5
theorem wsx_far {k : Nat} (hk : k ≠ g) : (wsx w g o v0 v1 v2 v3 v4 v5).heap[k]? = w.heap[k]? := by
  have q : ∀ (w0 : World) (i : Nat) (u : Value), (w0.setCell ⟨g, i, none⟩ u).heap[k]? = w0.heap[k]? := fun w0 i u => heap_setCell_other _ _ _ _ hk
  unfold wsx; rw [q, q, q, q, q, q]
theorem wsx_size : (wsx w g o v0 v1 v2 v3 v4 v5).heap.size = w.heap.size := by simp [wsx, World.setCell]
end

/-- A row of pieces, written in place: what the first j lead to is new (from B on, and not the row itself); what the others lead to is old. -/
structure InRow (w : World) (g hi B j : Nat) (xs : List Pc.Piece) : Prop where
  row : ∃ cur, w.heap[g]? = some (.cells cur 79 (0, 0)) ∧ xs.length * 6 ≤ cur.size
  new : ∀ m x, m < j → xs[m]? = some x → ∃ cs, Rep.piece.is true w (fun b => B ≤ b ∧ b < w.heap.size ∧ b ≠ g) cs x ∧ ∀ i u, cs[i]? = some u → w.cell? ⟨g, m * 6 + i, none⟩ = some u
  old : ∀ m x, j ≤ m → xs[m]? = some x → ∃ cs, Rep.piece.is false w (fun b => b < hi) cs x ∧ ∀ i u, cs[i]? = some u → w.cell? ⟨g, m * 6 + i, none⟩ = some u
  hig : hi ≤ g
  hBg : B ≤ g
section
variable {w w' : World} {g hi B j : Nat} {xs : List Pc.Piece}
theorem InRow.lt (h : InRow w g hi B j xs) : g < w.heap.size := by
  obtain ⟨cur, h1, _⟩ := h.row
  exact lt_of_block h1
theorem InRow.next (h : InRow w g hi B j xs) (hb : Below w.heap.size w w') : InRow w' g hi B j xs := by
  have hlt := h.lt
  have hbl := hb.block g hlt
  refine ⟨?_, fun m x hm hx => ?_, fun m x hm hx => ?_, h.hig, h.hBg⟩
  · obtain ⟨cur, h1, h2⟩ := h.row
    exact ⟨cur, hbl.trans h1, h2⟩
  · obtain ⟨cs, h1, h2⟩ := h.new m x hm hx
    exact ⟨cs, Rep.piece.widen (Rep.piece.keep h1 fun b hb1 => hb.block b hb1.2.1) fun b hb1 => ⟨hb1.1, Nat.lt_of_lt_of_le hb1.2.1 hb.size, hb1.2.2⟩, fun i u hu => (cell_of_block hbl).trans (h2 i u hu)⟩
  · obtain ⟨cs, h1, h2⟩ := h.old m x hm hx
    exact ⟨cs, Rep.piece.keep h1 fun b hb1 => hb.block b (by have := h.hig; omega), fun i u hu => (cell_of_block hbl).trans (h2 i u hu)⟩
theorem InRow.keep (h : InRow w g hi B j xs) (hk : ∀ b, b < hi ∨ B ≤ b → w'.heap[b]? = w.heap[b]?) (hs : w.heap.size ≤ w'.heap.size) : InRow w' g hi B j xs := by
  have hbl := hk g (.inr h.hBg)
  refine ⟨?_, fun m x hm hx => ?_, fun m x hm hx => ?_, h.hig, h.hBg⟩
  · obtain ⟨cur, h1, h2⟩ := h.row
    exact ⟨cur, hbl.trans h1, h2⟩
  · obtain ⟨cs, h1, h2⟩ := h.new m x hm hx
    exact ⟨cs, Rep.piece.widen (Rep.piece.keep h1 fun b hb1 => hk b (.inr hb1.1)) fun b hb1 => ⟨hb1.1, Nat.lt_of_lt_of_le hb1.2.1 hs, hb1.2.2⟩, fun i u hu => (cell_of_block hbl).trans (h2 i u hu)⟩
  · obtain ⟨cs, h1, h2⟩ := h.old m x hm hx
    exact ⟨cs, Rep.piece.keep h1 fun b hb1 => hk b (.inl hb1), fun i u hu => (cell_of_block hbl).trans (h2 i u hu)⟩
theorem InRow.base {B' : Nat} (h : InRow w g hi B j xs) (hB : B' ≤ B) : InRow w g hi B' j xs :=
  ⟨h.row, fun m x hm hx => by obtain ⟨cs, h1, h2⟩ := h.new m x hm hx; exact ⟨cs, Rep.piece.widen h1 fun b hb => ⟨Nat.le_trans hB hb.1, hb.2⟩, h2⟩, h.old, h.hig, Nat.le_trans hB h.hBg⟩
theorem InRow.free (h : InRow w g hi B j xs) (i : Nat) : w.frozen? ⟨g, i, none⟩ = false := by
  obtain ⟨cur, h1, _⟩ := h.row
  simp [World.frozen?, h1]
theorem InRow.step {x : Pc.Piece} {v0 v1 v2 v3 v4 v5 : Value} (h : InRow w g hi B j xs) (hx : xs[j]? = some x) (hn : Rep.piece.is true w (fun b => B ≤ b ∧ b < w.heap.size ∧ b ≠ g) [v0, v1, v2, v3, v4, v5] x) :
    InRow (wsx w g (j * 6) v0 v1 v2 v3 v4 v5) g hi B (j + 1) xs := by
  obtain ⟨cur, hc, hs⟩ := h.row
  have hat := wsx_at (o := j * 6) (v0 := v0) (v1 := v1) (v2 := v2) (v3 := v3) (v4 := v4) (v5 := v5) hc
  have hjl : j < xs.length := (List.getElem?_eq_some_iff.1 hx).1
  have hother : ∀ m i u, m ≠ j → i < 6 → w.cell? ⟨g, m * 6 + i, none⟩ = some u → (wsx w g (j * 6) v0 v1 v2 v3 v4 v5).cell? ⟨g, m * 6 + i, none⟩ = some u := by
    intro m i u hm hi6 hu
    rw [blk_cell hc] at hu
    rw [blk_cell hat, arr6_out (by omega)]
    exact hu
  refine ⟨⟨_, hat, by rw [arr6_size]; exact hs⟩, fun m y hm hy => ?_, fun m y hm hy => ?_, h.hig, h.hBg⟩
  · rcases Nat.lt_or_ge m j with hmj | hmj
    · obtain ⟨cs, h1, h2⟩ := h.new m y hmj hy
      have hl : cs.length = 6 := Rep.piece.len h1
      refine ⟨cs, Rep.piece.widen (Rep.piece.keep h1 fun b hb => wsx_far hb.2.2) fun b hb => by rw [wsx_size]; exact hb, fun i u hu => hother m i u (by omega) ?_ (h2 i u hu)⟩
      have := (List.getElem?_eq_some_iff.1 hu).1
      omega
    · obtain rfl : m = j := by omega
      rw [hx] at hy
      cases hy
      refine ⟨_, Rep.piece.widen (Rep.piece.keep hn fun b hb => wsx_far hb.2.2) fun b hb => by rw [wsx_size]; exact hb, fun i u hu => ?_⟩
      rw [blk_cell hat]
      exact arr6_in (by omega) hu
  · obtain ⟨cs, h1, h2⟩ := h.old m y (by omega) hy
    have hl : cs.length = 6 := Rep.piece.len h1
    refine ⟨cs, Rep.piece.keep h1 fun b hb => wsx_far (by have := h.hig; omega), fun i u hu => hother m i u (by omega) ?_ (h2 i u hu)⟩
    have := (List.getElem?_eq_some_iff.1 hu).1
    omega
theorem Rep.all_slots {α : Type} {r : Rep α} {fr : Bool} {w : World} {S : Nat → Prop} : ∀ {xs : List α} {cells : List Value}, cells.length = xs.length * r.size → (∀ (m : Nat) (x : α), xs[m]? = some x → ∃ cs, r.is fr w S cs x ∧ ∀ i u, cs[i]? = some u → cells[m * r.size + i]? = some u) → r.all fr w S cells xs := by
  intro xs
  induction xs with
  | nil => intro cells hl _; exact List.eq_nil_of_length_eq_zero (by simpa using hl)
  | cons x xs ih =>
    intro cells hl h
    obtain ⟨cs, h1, h2⟩ := h 0 x rfl
    have hcl := r.len h1
    rw [List.length_cons, Nat.succ_mul] at hl
    have hpre : cells.take r.size = cs := by
      apply List.ext_getElem?
      intro i
      rcases Nat.lt_or_ge i r.size with hi | hi
      · rw [List.getElem?_take, if_pos hi]
        have hu : cs[i]? = some (cs[i]'(by omega)) := List.getElem?_eq_getElem (by omega)
        rw [hu]
        have := h2 i _ hu
        rwa [Nat.zero_mul, Nat.zero_add] at this
      · rw [List.getElem?_eq_none (by rw [List.length_take]; omega), List.getElem?_eq_none (by omega)]
    refine ⟨cs, cells.drop r.size, by rw [← hpre, List.take_append_drop], h1, ih (by rw [List.length_drop]; omega) fun m y hy => ?_⟩
    obtain ⟨c2, h3, h4⟩ := h (m + 1) y (by simpa using hy)
    refine ⟨c2, h3, fun i u hu => ?_⟩
    rw [List.getElem?_drop]
    have := h4 i u hu
    rw [Nat.succ_mul] at this
    rw [← this]
    congr 1
    omega
theorem InRow.slice {c : Nat} (h : InRow w g hi B xs.length xs) (hc : xs.length ≤ c) (hm : c ≤ maxLen) : SliceIs Rep.piece true w B w.heap.size (.slice (some ⟨g, 0, none⟩) xs.length c) xs := by
  obtain ⟨cur, hr, hs⟩ := h.row
  have hlt := h.lt
  refine ⟨_, _, rfl, hc, hm, cur.toList.take (xs.length * 6), ?_, fun hn => ⟨g, 0, rfl, ⟨h.hBg, hlt⟩, fun j u hj => ⟨?_, fun _ => h.free _⟩⟩⟩
  · apply Rep.all_slots
    · show (cur.toList.take (xs.length * 6)).length = xs.length * 6
      have : cur.toList.length = cur.size := Array.length_toList
      rw [List.length_take]; omega
    · intro m x hx
      have hml : m < xs.length := (List.getElem?_eq_some_iff.1 hx).1
      obtain ⟨cs, h1, h2⟩ := h.new m x hml hx
      refine ⟨cs, Rep.piece.widen h1 fun b hb => ⟨hb.1, hb.2.1⟩, fun i u hu => ?_⟩
      have hl : cs.length = 6 := Rep.piece.len h1
      have hi6 := (List.getElem?_eq_some_iff.1 hu).1
      have := h2 i u hu
      rw [blk_cell hr] at this
      show (cur.toList.take (xs.length * 6))[m * 6 + i]? = some u
      rw [List.getElem?_take, if_pos (by omega)]
      simpa using this
  · rw [List.getElem?_take] at hj
    split at hj
    · rw [blk_cell hr, Nat.zero_add]; simpa using hj
    · cases hj
end
/-- A list of numbers that lies in the blocks lo .. hi. -/
def Kept (w : World) (lo hi : Nat) (v : Value) (xs : List Int) : Prop := hi ≤ w.heap.size ∧ SliceIs Rep.int true w lo hi v xs
theorem Kept.keep {w w' : World} {lo hi : Nat} {v : Value} {xs : List Int} (h : Kept w lo hi v xs) (hs : hi ≤ w'.heap.size) (hk : ∀ b, lo ≤ b → b < hi → w'.heap[b]? = w.heap[b]?) : Kept w' lo hi v xs := ⟨hs, h.2.keep hk⟩
theorem Kept.next {w w' : World} {lo hi : Nat} {v : Value} {xs : List Int} (h : Kept w lo hi v xs) (hb : Below w.heap.size w w') : Kept w' lo hi v xs := ⟨Nat.le_trans h.1 hb.size, h.2.below hb h.1⟩
/-- What frame.Own answers: a frame whose lists lie in blocks of its own, the pieces' row apart from what they lead to. -/
def OwnIs (w : World) (B : Nat) (v : Value) (f : Fr) : Prop :=
  ∃ A' B' k l, v = .agg #[.int .i64 f.kind, .int .i64 f.epoch, .int .i64 f.seq, .int .i64 f.letter, .slice A' f.pieces.length k, .int .i64 f.init, .int .i64 f.num, .int .i64 f.count, .slice B' f.path.length l] ∧
    f.pieces.length ≤ k ∧ k ≤ maxLen ∧ (0 < f.pieces.length → ∃ g hi, A' = some ⟨g, 0, none⟩ ∧ InRow w g hi B f.pieces.length f.pieces) ∧ SliceIs Rep.int true w B w.heap.size (.slice B' f.path.length l) f.path
theorem OwnIs.fr {w : World} {B : Nat} {v : Value} {f : Fr} (h : OwnIs w B v f) : FrIs true w B w.heap.size v f := by
  obtain ⟨A', B', k, l, rfl, h1, h2, h3, h4⟩ := h
  refine ⟨A', B', k, l, rfl, ?_, h4⟩
  rcases Nat.eq_zero_or_pos f.pieces.length with h0 | h0
  · have hn : f.pieces = [] := List.eq_nil_of_length_eq_zero h0
    rw [hn]
    exact SliceIs.nil_any _ _ h2
  · obtain ⟨g, hi, rfl, h5⟩ := h3 h0
    exact h5.slice h1 h2
end Go.Proofs.Ytkkbblpofhenpaa

/- cameolaw06.fixed: calls whose answers the document fixes. -/
namespace Go.Proofs.Ytkkbblpofhenpaa
open Go.RowKit

theorem Box.new' {w : World} {n : Nat} (cs : Array Value) (T : TypeId) (h : w.heap.size = n) : Box (w.alloc (.cells cs T)) n cs T := by subst h; exact Box.new _ _ _
def P1 : Pc.Piece := ⟨1, 2, 3, [], [], []⟩
def B1 : Pc.Piece := ⟨6, 0, 0, [], [], []⟩
def s1 : List UInt8 := [1, 2, 3, 0, 0, 0]
def s2 : List UInt8 := [1, 0, 0, 1, 4, 1, 1, 2, 3, 1, 2, 0, 1]

end Go.Proofs.Ytkkbblpofhenpaa

/- cameolaw07.fixed: calls whose answers the document fixes. -/
namespace Go.Proofs.Ytkkbblpofhenpaa
open Go.RowKit

namespace Fr
def F2 : Fr := ⟨0, 0, 2, 1, [], 0, 0, 0, []⟩
end Fr
end Go.Proofs.Ytkkbblpofhenpaa
