/- Lemmas, walks and contracts that the statements of this seat are proved by. -/
import Derived.Test.YtdfgnmdofjhnkaaG19
import Derived.Test.YtdfgnmdofjhnkaaG14
import Derived.Test.YtdfgnmdofjhnkaaG13
import Derived.Test.YtdfgnmdofjhnkaaG12
import Derived.Test.YtdfgnmdofjhnkaaG8
import Derived.Test.YtdfgnmdofjhnkaaRows
import Derived.Test.YtdfgnmdofjhnkaaG1
import Derived.ProofKit
import Derived.OpenShut
import Derived.ShutString
import Derived.Carry
import Derived.Test.YtdfgnmdofjhnkaaG3
import Derived.Test.YtdfgnmdofjhnkaaG4
import Derived.Deep.Slices
import Derived.ChangeArms
import Derived.Test.YtdfgnmdofjhnkaaG11
/- cameolaw07.fixed: calls whose answers the document fixes. -/
namespace Go.Proofs.Ytdfgnmdofjhnkaa
open Go.RowKit

namespace Fr
def F1 : Fr := ⟨1, 3, 0, 0, [], 0, 0, 0, []⟩
def F2 : Fr := ⟨0, 0, 2, 1, [], 0, 0, 0, []⟩
def F3 : Fr := ⟨5, 1, 0, 0, [⟨1, 0, 0, [], [], []⟩], 0, 0, 0, []⟩
def F4 : Fr := ⟨6, 0, 0, 0, [], 2, 5, 300, [2, 0]⟩
def F5 : Fr := ⟨1, 3, 0, 0, [], 0, 1, 0, []⟩
theorem dec_F3 : dec [5, 1, 1, 6, 1, 0, 0, 0, 0, 0] = F3 ∧ decE [5, 1, 1, 6, 1, 0, 0, 0, 0, 0] = 0 := dec_yes (f := F3) (by decide) (by decide)
theorem dec_F4 : dec [6, 2, 5, 172, 2, 2, 2, 0] = F4 ∧ decE [6, 2, 5, 172, 2, 2, 2, 0] = 0 := dec_yes (f := F4) (by decide) (by decide)
theorem dec_nil : dec [] = zero ∧ decE [] = 4 := dec_no fun F h1 h2 => by
  have h := kind_g3 (l := []) (k := 0) (a := 0) (e := (g3 [] 0).2.2) rfl F h1 h2
  exact absurd h.1 (by decide)
theorem dec_71 : dec [7, 1] = zero ∧ decE [7, 1] = 4 := dec_no fun F h1 h2 => by
  have h := kind_g3 (l := [7, 1]) (k := 7) (a := 1) (e := 0) (by decide) F h1 h2
  have := right_kind h1
  omega
theorem dec_10 : dec [1, 0] = zero ∧ decE [1, 0] = 4 := dec_no fun F h1 h2 => by
  have h := heads_say (l := [1, 0]) (k := 1) (a := 1) (a1 := 0) (b := 2) (c := 0) (d := 2) (e := 0) (g := 2) (by decide) (by decide) (by decide) (by decide) F h1 h2
  have h3 := h.2.1 (by decide)
  have h6 : F.kind ≠ 6 := by omega
  have hn : ¬ okRest F := fun ho => by have := ho.2.2.2.1 (by omega); omega
  rw [right_no h6 hn] at h1
  cases h1
end Fr
theorem frencodec {v : Value} {f : Fr} {w : World} {l : List UInt8} {n : Int} (h : FrIs false w 0 w.heap.size v f) (he : Fr.enc f = l) (hr : Fr.err f = n) : Calls Try.prog 31 #[v] w
    fun x w' => x = .returned (.tuple #[.string ⟨l.toArray⟩, .int .i64 n]) ∧ Below w.heap.size w w' := by
  subst he hr; exact frencode_any v f w h
theorem frdecodec {s : ByteArray} {l : List UInt8} {f : Fr} {n : Int} (w : World) (hl : s.data.toList = l) (hs : l.length ≤ 1000) (hd : Fr.dec l = f ∧ Fr.decE l = n) : Calls Try.prog 34 #[.string s] w
    fun x w' => (∃ A k B m, x = .returned (.tuple #[.agg #[.int .i64 f.kind, .int .i64 f.epoch, .int .i64 f.seq, .int .i64 f.letter, .slice A f.pieces.length k, .int .i64 f.init, .int .i64 f.num, .int .i64 f.count, .slice B f.path.length m], .int .i64 n]) ∧ FrIs false w' 0 w'.heap.size (.agg #[.int .i64 f.kind, .int .i64 f.epoch, .int .i64 f.seq, .int .i64 f.letter, .slice A f.pieces.length k, .int .i64 f.init, .int .i64 f.num, .int .i64 f.count, .slice B f.path.length m]) f) ∧ Below w.heap.size w w' := by
  obtain ⟨rfl, rfl⟩ := hd
  subst hl
  have hs' : s.size ≤ 1000000 := by
    have : s.size = s.data.toList.length := by rw [Array.length_toList]; rfl
    omega
  refine (frdecode_any s w hs').mono ?_
  rintro x w' ⟨⟨v, rfl, hv⟩, hb⟩
  have hv' := hv
  obtain ⟨A, B, k, m, rfl, _, _⟩ := hv'
  exact ⟨⟨A, k, B, m, rfl, hv⟩, hb⟩
theorem frownc (v : Value) (f : Fr) (w : World) (h : FrIs false w 0 w.heap.size v f) (hn : f.pieces.length ≤ 1000000) (hl : f.path.length ≤ 1000000) (hsz : ∀ p ∈ f.pieces, Pc.sized p) : Calls Try.prog 40 #[v] w
    fun y w' => (∃ u, y = .returned u ∧ FrIs false w' 0 w'.heap.size u f) ∧ Below w.heap.size w w' := by
  refine (frown_any v f w h hn hl hsz).mono ?_
  rintro y w' ⟨⟨u, rfl, ho⟩, hb⟩
  exact ⟨⟨u, rfl, (ho.fr.widen (Nat.zero_le _) (Nat.le_refl _)).soft⟩, hb⟩

set_option maxRecDepth 100000 in
set_option maxHeartbeats 8000000 in
theorem fixed7_any (w : World) : Calls Try.prog 41 #[] w fun x w' => x = .returned (.bool true) ∧ Below w.heap.size w w' := by
  have hB : Below w.heap.size w w := Below.refl _ _
  go_enter Try.func41, Try.ntmps41
  try simp only [List.append_eq, List.cons_append, List.nil_append]
  go_wp2_with fail
  refine (frencodec (v := .agg #[.int .i64 1, .int .i64 3, .int .i64 0, .int .i64 0, .slice none 0 0, .int .i64 0, .int .i64 0, .int .i64 0, .slice none 0 0]) (f := Fr.F1) (l := [1, 3]) (n := 0) (FrIs.of (f := Fr.F1) SliceIs.none_ SliceIs.none_) (by decide) (by decide)).mono ?_
  rintro e w1 ⟨rfl, hb⟩
  replace hB := hB.trans (hb.mono hB.size)
  clear hb
  go_wp2_with fail
  refine (frencodec (v := .agg #[.int .i64 0, .int .i64 0, .int .i64 2, .int .i64 1, .slice none 0 0, .int .i64 0, .int .i64 0, .int .i64 0, .slice none 0 0]) (f := Fr.F2) (l := [0, 0, 2, 1]) (n := 0) (FrIs.of (f := Fr.F2) SliceIs.none_ SliceIs.none_) (by decide) (by decide)).mono ?_
  rintro e w2 ⟨rfl, hb⟩
  replace hB := hB.trans (hb.mono hB.size)
  clear hb
  go_wp2_with fail
  refine name_call fun W2 hW2 => ?_
  have bq : Box W2 w2.heap.size #[.int .i64 1, .int .i64 0, .int .i64 0, .slice none 0 0, .slice none 0 0, .slice none 0 0] 26 := hW2 ▸ Box.new _ _ _
  have hb : Below w2.heap.size w2 W2 := hW2 ▸ (Below.refl _ _).alloc (Nat.le_refl _) _
  clear hW2
  replace hB := hB.trans (hb.mono hB.size)
  clear hb
  have q3 : FrIs false W2 0 W2.heap.size (.agg #[.int .i64 5, .int .i64 1, .int .i64 0, .int .i64 0, (.slice (some ⟨w2.heap.size, 0, none⟩) 1 1), .int .i64 0, .int .i64 0, .int .i64 0, .slice none 0 0]) Fr.F3 := FrIs.of (f := Fr.F3) (SliceOn.is_ (SliceOn.of_block (r := Rep.piece) (xs := [⟨1, 0, 0, [], [], []⟩]) (cells := [.int .i64 1, .int .i64 0, .int .i64 0, .slice none 0 0, .slice none 0 0, .slice none 0 0]) bq (Rep.all_single ⟨_, _, _, rfl, SliceOn.none_, SliceOn.none_, SliceOn.none_⟩) ⟨Nat.zero_le _, bq.lt⟩ rfl (by decide) (by unfold maxLen; omega))) SliceIs.none_
  clear bq
  refine (frencodec (f := Fr.F3) (l := [5, 1, 1, 6, 1, 0, 0, 0, 0, 0]) (n := 0) q3 (by decide) (by decide)).mono ?_
  rintro e w3 ⟨rfl, hb⟩
  replace hB := hB.trans (hb.mono hB.size)
  clear hb
  clear q3
  go_wp2_with fail
  refine name_call fun W3 hW3 => ?_
  have bq : Box W3 w3.heap.size #[.int .i64 2, .int .i64 0] 3 := hW3 ▸ Box.new _ _ _
  have hb : Below w3.heap.size w3 W3 := hW3 ▸ (Below.refl _ _).alloc (Nat.le_refl _) _
  clear hW3
  replace hB := hB.trans (hb.mono hB.size)
  clear hb
  have q4 : FrIs false W3 0 W3.heap.size (.agg #[.int .i64 6, .int .i64 0, .int .i64 0, .int .i64 0, .slice none 0 0, .int .i64 2, .int .i64 5, .int .i64 300, (.slice (some ⟨w3.heap.size, 0, none⟩) 2 2)]) Fr.F4 := FrIs.of (f := Fr.F4) SliceIs.none_ (SliceOn.is_ (SliceOn.of_block (r := Rep.int) (xs := [2, 0]) (cells := [.int .i64 2, .int .i64 0]) bq (ints_all _ _ _ [2, 0]) ⟨Nat.zero_le _, bq.lt⟩ rfl (by decide) (by unfold maxLen; omega)))
  clear bq
  refine (frencodec (f := Fr.F4) (l := [6, 2, 5, 172, 2, 2, 2, 0]) (n := 0) q4 (by decide) (by decide)).mono ?_
  rintro e w4 ⟨rfl, hb⟩
  replace hB := hB.trans (hb.mono hB.size)
  clear hb
  clear q4
  go_wp2_with fail
  refine (frdecodec (l := [6, 2, 5, 172, 2, 2, 2, 0]) (f := Fr.F4) (n := 0) _ rfl (by decide) Fr.dec_F4).mono ?_
  rintro e w5 ⟨⟨XA, xk, XB, xm, rfl, hx⟩, hb⟩
  replace hB := hB.trans (hb.mono hB.size)
  clear hb
  dsimp only [Fr.F4, List.length_cons, List.length_nil] at hx ⊢
  replace hx : FrIs false w5 0 w5.heap.size (.agg #[.int .i64 6, .int .i64 0, .int .i64 0, .int .i64 0, .slice XA 0 xk, .int .i64 2, .int .i64 5, .int .i64 300, .slice XB 2 xm]) Fr.F4 := hx
  go_wp2_with fail
  refine (frdecodec (l := [5, 1, 1, 6, 1, 0, 0, 0, 0, 0]) (f := Fr.F3) (n := 0) _ rfl (by decide) Fr.dec_F3).mono ?_
  rintro e w6 ⟨⟨YA, yk, YB, ym, rfl, hy⟩, hb⟩
  have bx := (Box.new w5 #[.int .i64 6, .int .i64 0, .int .i64 0, .int .i64 0, .slice XA 0 xk, .int .i64 2, .int .i64 5, .int .i64 300, .slice XB 2 xm] 58).next hb
  replace hb : Below w5.heap.size w5 w6 := ((Below.refl _ _).alloc (Nat.le_refl _) _).trans (hb.mono (by simp))
  replace hx := hx.next hb
  replace hB := hB.trans (hb.mono hB.size)
  clear hb
  dsimp only [Fr.F3, List.length_cons, List.length_nil] at hy ⊢
  replace hy : FrIs false w6 0 w6.heap.size (.agg #[.int .i64 5, .int .i64 1, .int .i64 0, .int .i64 0, .slice YA 1 yk, .int .i64 0, .int .i64 0, .int .i64 0, .slice YB 0 ym]) Fr.F3 := hy
  go_wp2_with fail
  refine (frdecodec (l := []) (f := Fr.zero) (n := 4) _ rfl (by decide) Fr.dec_nil).mono ?_
  rintro e w7 ⟨⟨ZA, zk, ZB, zm, rfl, hz⟩, hb⟩
  have by_ := (Box.new w6 #[.int .i64 5, .int .i64 1, .int .i64 0, .int .i64 0, .slice YA 1 yk, .int .i64 0, .int .i64 0, .int .i64 0, .slice YB 0 ym] 58).next hb
  replace hb : Below w6.heap.size w6 w7 := ((Below.refl _ _).alloc (Nat.le_refl _) _).trans (hb.mono (by simp))
  replace hx := hx.next hb
  replace hy := hy.next hb
  replace bx := bx.next hb
  replace hB := hB.trans (hb.mono hB.size)
  clear hb
  dsimp only [Fr.zero, List.length_nil] at hz ⊢
  clear hz
  go_wp2_with fail
  refine (frdecodec (l := [1, 0]) (f := Fr.zero) (n := 4) _ rfl (by decide) Fr.dec_10).mono ?_
  rintro e w8 ⟨⟨YA2, yk2, YB2, ym2, rfl, hz⟩, hb⟩
  have bz := (Box.new w7 #[.int .i64 0, .int .i64 0, .int .i64 0, .int .i64 0, .slice ZA 0 zk, .int .i64 0, .int .i64 0, .int .i64 0, .slice ZB 0 zm] 58).next hb
  replace hb : Below w7.heap.size w7 w8 := ((Below.refl _ _).alloc (Nat.le_refl _) _).trans (hb.mono (by simp))
  replace hx := hx.next hb
  replace hy := hy.next hb
  replace bx := bx.next hb
  replace by_ := by_.next hb
  replace hB := hB.trans (hb.mono hB.size)
  clear hb
  dsimp only [Fr.zero, List.length_nil] at hz ⊢
  clear hz
  go_wp2_with fail
  clear bz
  refine (frencodec (v := .agg #[.int .i64 1, .int .i64 3, .int .i64 0, .int .i64 0, .slice none 0 0, .int .i64 0, .int .i64 1, .int .i64 0, .slice none 0 0]) (f := Fr.F5) (l := []) (n := 4) (FrIs.of (f := Fr.F5) SliceIs.none_ SliceIs.none_) (by decide) (by decide)).mono ?_
  rintro e w9 ⟨rfl, hb⟩
  have bz := (Box.new w8 #[.int .i64 0, .int .i64 0, .int .i64 0, .int .i64 0, .slice YA2 0 yk2, .int .i64 0, .int .i64 0, .int .i64 0, .slice YB2 0 ym2] 58).next hb
  replace hb : Below w8.heap.size w8 w9 := ((Below.refl _ _).alloc (Nat.le_refl _) _).trans (hb.mono (by simp))
  replace hx := hx.next hb
  replace hy := hy.next hb
  replace bx := bx.next hb
  replace by_ := by_.next hb
  replace hB := hB.trans (hb.mono hB.size)
  clear hb
  go_wp2_with fail
  clear bz
  refine (frdecodec (l := [7, 1]) (f := Fr.zero) (n := 4) _ rfl (by decide) Fr.dec_71).mono ?_
  rintro e w10 ⟨⟨ZA3, zk3, ZB3, zm3, rfl, hz⟩, hb⟩
  replace hx := hx.next hb
  replace hy := hy.next hb
  replace bx := bx.next hb
  replace by_ := by_.next hb
  replace hB := hB.trans (hb.mono hB.size)
  clear hb
  dsimp only [Fr.zero, List.length_nil] at hz ⊢
  clear hz
  go_wp2_with fail
  refine name_wp fun W1 hW1 => ?_
  have hb : Below w10.heap.size w10 W1 := hW1 ▸ (Below.refl _ _).alloc (Nat.le_refl _) _
  replace hx := hx.next hb
  replace hy := hy.next hb
  replace bx := bx.next hb
  replace by_ := by_.next hb
  replace hB := hB.trans (hb.mono hB.size)
  clear hb hW1
  replace hx := hx.next ((Below.refl _ _).drew)
  replace hy := hy.next ((Below.refl _ _).drew)
  replace bx := bx.next ((Below.refl _ _).drew)
  replace by_ := by_.next ((Below.refl _ _).drew)
  replace hB := hB.drew
  have hE := Ext.refl (W1.drew)
  refine region_go 8366078347921103285550841856 (by kernel_rfl) ?_
  obtain ⟨c0, c1, c2, c3, c4, c5, c6, c7, c8⟩ := nine_cells bx
  obtain ⟨d0, d1, d2, d3, d4, d5, d6, d7, d8⟩ := nine_cells by_
  refine wpAny_go 8366078347921103285550841856 0 [0, 1, 2, 3, 4, 5, 6, 7, 8, 9, 10, 11, 12, 13, 14, 15, 16, 17, 18, 19, 20, 21, 22, 23, 24, 25, 26, 27, 28, 29, 30, 31, 32, 33, 34, 35, 36, 37, 38, 39, 40, 41, 42, 43, 44, 45, 46, 47, 48, 49, 50, 51, 52, 53, 54, 55, 56, 57, 58, 59, 60, 61, 62, 63, 64, 65, 66, 67, 68, 69, 70, 71, 72] 9444732965739290427391 24 (by kernel_rfl) (by kernel_rfl) (fun _ _ _ _ _ h => h) (by kernel_rfl) (by rfl) (by rfl) (by kernel_rfl) ?_
  simp only [List.map_cons, List.map_nil, List.getD_cons_succ, List.getD_cons_zero]
  go_wp2_with fail
  change wpAnyM _ _ _ _ _ _ _ _ _ _
  clear c0 c1 c2 c3 c4 c5 c6 c7 c8
  clear d0 d1 d2 d3 d4 d5 d6 d7 d8
  refine wpAny_oneM 73 18889465931478580854783 (by kernel_rfl) (by kernel_rfl) (of_decide_eq_true (by kernel_rfl)) (by rfl) ?_
  simp only [List.getD_cons_succ, List.getD_cons_zero]
  go_wp2_with fail
  refine (frright_any _ Fr.F4 _ hx).mono ?_
  rintro e w11 ⟨rfl, hb⟩
  replace hx := hx.next hb
  replace hy := hy.next hb
  replace bx := bx.next hb
  replace by_ := by_.next hb
  replace hE := hE.trans (Ext.below hb (Nat.le_refl _))
  replace hB := hB.trans (hb.mono hB.size)
  clear hb
  rw [show Fr.right Fr.F4 = true from by decide]
  go_wp2_with fail
  refine ⟨fun _ => hE, ?_⟩
  obtain ⟨c0, c1, c2, c3, c4, c5, c6, c7, c8⟩ := nine_cells bx
  refine wpAny_go 8366078347921103285550841856 18889465931478580854783 [74, 75, 76, 77] 302231454903657293676543 19 (by kernel_rfl) (by kernel_rfl) (fun _ _ _ _ _ h => h) (by kernel_rfl) (by rfl) (by rfl) (by kernel_rfl) ?_
  simp only [List.map_cons, List.map_nil, List.getD_cons_succ, List.getD_cons_zero]
  go_wp2_with fail
  change wpAnyM _ _ _ _ _ _ _ _ _ _
  clear c0 c1 c2 c3 c4 c5 c6 c7 c8
  refine wpAny_oneM 78 604462909807314587353087 (by kernel_rfl) (by kernel_rfl) (of_decide_eq_true (by kernel_rfl)) (by rfl) ?_
  simp only [List.getD_cons_succ, List.getD_cons_zero]
  go_wp2_with fail
  refine (frsame_any _ _ Fr.F4 Fr.F4 _ hx hx).mono ?_
  rintro e w12 ⟨rfl, hb⟩
  replace hx := hx.next hb
  replace hy := hy.next hb
  replace bx := bx.next hb
  replace by_ := by_.next hb
  replace hE := hE.trans (Ext.below hb (Nat.le_refl _))
  replace hB := hB.trans (hb.mono hB.size)
  clear hb
  rw [show decide (Fr.F4 = Fr.F4) = true from rfl]
  go_wp2_with fail
  refine ⟨fun _ => hE, ?_⟩
  obtain ⟨c0, c1, c2, c3, c4, c5, c6, c7, c8⟩ := nine_cells bx
  obtain ⟨d0, d1, d2, d3, d4, d5, d6, d7, d8⟩ := nine_cells by_
  refine wpAny_go 8366078347921103285550841856 604462909807314587353087 [79, 80, 81, 82] 9671406556917033397649407 14 (by kernel_rfl) (by kernel_rfl) (fun _ _ _ _ _ h => h) (by kernel_rfl) (by rfl) (by rfl) (by kernel_rfl) ?_
  simp only [List.map_cons, List.map_nil, List.getD_cons_succ, List.getD_cons_zero]
  go_wp2_with fail
  change wpAnyM _ _ _ _ _ _ _ _ _ _
  clear c0 c1 c2 c3 c4 c5 c6 c7 c8
  clear d0 d1 d2 d3 d4 d5 d6 d7 d8
  refine wpAny_oneM 83 19342813113834066795298815 (by kernel_rfl) (by kernel_rfl) (of_decide_eq_true (by kernel_rfl)) (by rfl) ?_
  simp only [List.getD_cons_succ, List.getD_cons_zero]
  go_wp2_with fail
  refine (frsame_any _ _ Fr.F4 Fr.F3 _ hx hy).mono ?_
  rintro e w13 ⟨rfl, hb⟩
  replace hx := hx.next hb
  replace hy := hy.next hb
  replace bx := bx.next hb
  replace by_ := by_.next hb
  replace hE := hE.trans (Ext.below hb (Nat.le_refl _))
  replace hB := hB.trans (hb.mono hB.size)
  clear hb
  rw [show decide (Fr.F4 = Fr.F3) = false from by decide]
  go_wp2_with fail
  refine ⟨fun _ => hE, ?_⟩
  obtain ⟨d0, d1, d2, d3, d4, d5, d6, d7, d8⟩ := nine_cells by_
  refine wpAny_go 8366078347921103285550841856 19342813113834066795298815 [84, 85, 86, 87] 309485009821345068724781055 9 (by kernel_rfl) (by kernel_rfl) (fun _ _ _ _ _ h => h) (by kernel_rfl) (by rfl) (by rfl) (by kernel_rfl) ?_
  simp only [List.map_cons, List.map_nil, List.getD_cons_succ, List.getD_cons_zero]
  go_wp2_with fail
  change wpAnyM _ _ _ _ _ _ _ _ _ _
  clear d0 d1 d2 d3 d4 d5 d6 d7 d8
  obtain ⟨d0, d1, d2, d3, d4, d5, d6, d7, d8⟩ := nine_cells by_
  refine wpAnyM_rebase hE _ _ _ _ ?_
  clear hE
  have hE := Ext.refl w13
  refine wpAny_reads 8366078347921103285550841856 309485009821345068724781055 [90] 1547425049106725343623905279 8 (by kernel_rfl) (by kernel_rfl) (fun _ _ _ _ _ h => h) (by kernel_rfl) (by rfl) (by rfl) (by kernel_rfl) ?_
  simp only [List.map_cons, List.map_nil, List.getD_cons_succ, List.getD_cons_zero]
  go_wp2_with fail
  change _ → wpAnyM _ _ _ _ _ _ _ _ _ _; intro _
  clear d0 d1 d2 d3 d4 d5 d6 d7 d8
  refine wpAny_oneM 88 1856910058928070412348686335 (by kernel_rfl) (by kernel_rfl) (of_decide_eq_true (by kernel_rfl)) (by rfl) ?_
  simp only [List.getD_cons_succ, List.getD_cons_zero]
  go_wp2_with fail
  refine (frownc _ Fr.F3 _ hy (by decide) (by decide) (by intro p hp; simp only [Fr.F3, List.mem_singleton] at hp; subst hp; exact ⟨by decide, by decide, by decide, by decide, by decide⟩)).mono ?_
  rintro e w14 ⟨⟨v6, rfl, hz⟩, hb⟩
  replace hx := hx.next hb
  replace hy := hy.next hb
  replace bx := bx.next hb
  replace by_ := by_.next hb
  replace hE := hE.trans (Ext.below hb (Nat.le_refl _))
  replace hB := hB.trans (hb.mono hB.size)
  clear hb
  go_wp2_with fail
  refine ⟨fun _ => hE, ?_⟩
  refine wpAny_oneM 89 2475880078570760549798248447 (by kernel_rfl) (by kernel_rfl) (of_decide_eq_true (by kernel_rfl)) (by rfl) ?_
  simp only [List.getD_cons_succ, List.getD_cons_zero]
  go_wp2_with fail
  refine (frref_any _ Fr.F3 _ hz (by decide)).mono ?_
  rintro e w15 ⟨⟨v7, rfl, hz7⟩, hb⟩
  replace hx := hx.next hb
  replace hy := hy.next hb
  replace bx := bx.next hb
  replace by_ := by_.next hb
  replace hz := hz.next hb
  replace hE := hE.trans (Ext.below hb (Nat.le_refl _))
  replace hB := hB.trans (hb.mono hB.size)
  clear hb
  go_wp2_with fail
  refine ⟨fun _ => hE, ?_⟩
  refine wpAny_oneM 91 4951760157141521099596496895 (by kernel_rfl) (by kernel_rfl) (of_decide_eq_true (by kernel_rfl)) (by rfl) ?_
  simp only [List.getD_cons_succ, List.getD_cons_zero]
  go_wp2_with fail
  refine (frref_any _ Fr.F3 _ hy (by decide)).mono ?_
  rintro e w16 ⟨⟨v8, rfl, hz8⟩, hb⟩
  replace hx := hx.next hb
  replace hy := hy.next hb
  replace bx := bx.next hb
  replace by_ := by_.next hb
  replace hz := hz.next hb
  replace hz7 := hz7.next hb
  replace hE := hE.trans (Ext.below hb (Nat.le_refl _))
  replace hB := hB.trans (hb.mono hB.size)
  clear hb
  go_wp2_with fail
  refine ⟨fun _ => hE, ?_⟩
  refine wpAny_oneM 92 9903520314283042199192993791 (by kernel_rfl) (by kernel_rfl) (of_decide_eq_true (by kernel_rfl)) (by rfl) ?_
  simp only [List.getD_cons_succ, List.getD_cons_zero]
  go_wp2_with fail
  refine (rfrsame_any _ _ Fr.F3 Fr.F3 _ hz7 hz8).mono ?_
  rintro e w17 ⟨rfl, hb⟩
  replace hx := hx.next hb
  replace hy := hy.next hb
  replace bx := bx.next hb
  replace by_ := by_.next hb
  replace hz := hz.next hb
  replace hz7 := hz7.next hb
  replace hz8 := hz8.next hb
  replace hE := hE.trans (Ext.below hb (Nat.le_refl _))
  replace hB := hB.trans (hb.mono hB.size)
  clear hb
  rw [show decide (Fr.F3 = Fr.F3) = true from rfl]
  go_wp2_with fail
  refine ⟨fun _ => hE, ?_⟩
  refine wpAny_go 8366078347921103285550841856 9903520314283042199192993791 [93, 94, 95, 96] 158456325028528675187087900671 0 (by kernel_rfl) (by kernel_rfl) (fun _ _ _ _ _ h => h) (by kernel_rfl) (by rfl) (by rfl) (by kernel_rfl) ?_
  simp only [List.map_cons, List.map_nil, List.getD_cons_succ, List.getD_cons_zero]
  go_wp2_with fail
  change wpAnyM _ _ _ _ _ _ _ _ _ _
  refine wpAny_endM (by kernel_rfl) (by kernel_rfl) ?_
  go_wp2_with fail
  go_ret
  exact ⟨rfl, hB⟩
end Go.Proofs.Ytdfgnmdofjhnkaa

/- Contracts of layer 6 in the forms that the laws' walks want. -/
namespace Go.Proofs.Ytdfgnmdofjhnkaa
open Go.RowKit

theorem decodeq {s : ByteArray} {l : List UInt8} {p : Pc.Piece} {n : Int} (w : World) (hl : s.data.toList = l) (hs : l.length ≤ 1000000) (hp : Pc.dec l = p) (hn : Pc.decE l = n) : Calls Try.prog 19 #[.string s] w
    fun x w' => (∃ A1 c1 A2 c2 A3 c3, x = .returned (.tuple #[.agg #[.int .i64 p.node, .int .i64 p.state, .int .i64 p.steps, .slice A1 p.sent.length c1, .slice A2 p.inn.length c2, .slice A3 p.out.length c3], .int .i64 n]) ∧ PieceIs true w' w.heap.size w'.heap.size (.agg #[.int .i64 p.node, .int .i64 p.state, .int .i64 p.steps, .slice A1 p.sent.length c1, .slice A2 p.inn.length c2, .slice A3 p.out.length c3]) p) ∧ Below w.heap.size w w' := by
  subst hl hp hn
  have hs' : s.size ≤ 1000000 := by
    have : s.size = s.data.toList.length := by rw [Array.length_toList]; rfl
    omega
  refine (decode_any s w hs').mono ?_
  rintro x w' ⟨⟨v, rfl, hv⟩, hb⟩
  have hv' := hv
  obtain ⟨_, _, _, rfl, ⟨A1, c1, rfl, _⟩, ⟨A2, c2, rfl, _⟩, ⟨A3, c3, rfl, _⟩⟩ := hv'
  exact ⟨⟨A1, c1, A2, c2, A3, c3, rfl, hv⟩, hb⟩
theorem encodeq {v : Value} {p : Pc.Piece} {w : World} {S : ByteArray} {n : Int} (h : PieceIs false w 0 w.heap.size v p) (he : ByteArray.mk (Pc.enc p).toArray = S) (hr : Pc.err p = n) : Calls Try.prog 16 #[v] w
    fun x w' => x = .returned (.tuple #[.string S, .int .i64 n]) ∧ Below w.heap.size w w' := by
  subst he hr; exact encode_any v p w h
theorem rightq {v : Value} {p : Pc.Piece} {w : World} {b : Bool} (h : PieceIs false w 0 w.heap.size v p) (hr : Pc.right p = b) : Calls Try.prog 21 #[v] w fun x w' => x = .returned (.bool b) ∧ Below w.heap.size w w' := by
  subst hr; exact right_any v p w h
theorem rrightq {v : Value} {p : Pc.Piece} {w : World} {b : Bool} (h : PieceIs false w 0 w.heap.size v p) (hr : Pc.right p = b) : Calls Try.prog 22 #[v] w fun x w' => x = .returned (.bool b) ∧ Below w.heap.size w w' := by
  subst hr; exact rright_any v p w h
theorem sameq {v u : Value} {p q : Pc.Piece} {w : World} (h : PieceIs false w 0 w.heap.size v p) (h' : PieceIs false w 0 w.heap.size u q) (he : p = q) : Calls Try.prog 23 #[v, u] w fun x w' => x = .returned (.bool true) ∧ Below w.heap.size w w' := by
  have := same_any v u p q w h h'
  rwa [decide_eq_true he] at this
theorem rsameq {v u : Value} {p q : Pc.Piece} {w : World} (h : PieceIs false w 0 w.heap.size v p) (h' : PieceIs false w 0 w.heap.size u q) (he : p = q) : Calls Try.prog 24 #[v, u] w fun x w' => x = .returned (.bool true) ∧ Below w.heap.size w w' := by
  have := rsame_any v u p q w h h'
  rwa [decide_eq_true he] at this
theorem zero_is {fr : Bool} {w : World} {lo hi : Nat} : PieceIs fr w lo hi (.agg #[.int .i64 0, .int .i64 0, .int .i64 0, .slice none 0 0, .slice none 0 0, .slice none 0 0]) Pc.zero := ⟨_, _, _, rfl, SliceIs.none_, SliceIs.none_, SliceIs.none_⟩
theorem enc_len (p : Pc.Piece) : (Pc.enc p).length ≤ 1000000 := by
  unfold Pc.enc
  split
  · rename_i h
    have := W.puts_len (Pc.nums p)
    have := Pc.nums_len (Pc.small_of h)
    omega
  · simp
theorem bytes_of {s : ByteArray} {l : List UInt8} (h : l = s.data.toList) : ByteArray.mk l.toArray = s := by
  subst h; exact ByteArray.ext (by simp)
theorem SliceIs.next {α : Type} {r : Rep α} {fr : Bool} {w w' : World} {lo : Nat} {v : Value} {xs : List α} (h : SliceIs r fr w lo w.heap.size v xs) (hb : Below w.heap.size w w') : SliceIs r fr w' lo w'.heap.size v xs := (h.below hb (Nat.le_refl _)).widen (Nat.le_refl _) hb.size
theorem SliceIs.zero_ {α : Type} {r : Rep α} {fr : Bool} {w : World} {lo : Nat} {v : Value} {xs : List α} (h : SliceIs r fr w lo w.heap.size v xs) : SliceIs r false w 0 w.heap.size v xs := (h.widen (Nat.zero_le _) (Nat.le_refl _)).soft
theorem rallq {s : ByteArray} {l : List Nat} {xs : List Int} (w : World) (hs : s.size ≤ 1000000) (hl : W.all s.data.toList = .ok l) (hx : Pc.zs l = xs) : Calls Try.prog 27 #[.string s] w
    fun x w' => (∃ A c, x = .returned (.tuple #[.slice A xs.length c, .int .i64 0]) ∧ SliceIs Rep.int true w' w.heap.size w'.heap.size (.slice A xs.length c) xs) ∧ Below w.heap.size w w' := by
  subst hx
  have h := rall_any s w (by omega)
  rw [hl] at h
  refine h.mono ?_
  rintro x w' ⟨⟨v, rfl, hown⟩, hb⟩
  have h2 : w'.ownsRow w.heap.size 3 1 v (Pc.zs l).length (ints (Pc.zs l)) := by
    rw [← i64s_ints]; simpa [Pc.zs] using hown
  have h3 := SliceIs.of_own (r := Rep.int) (fr := true) (lo := w.heap.size) h2 (ints_all _ _ _ _) (Nat.le_refl _) (Nat.le_refl _)
  obtain ⟨A, c, rfl, _⟩ := id h3
  exact ⟨⟨A, c, rfl, h3⟩, hb⟩
theorem numbersq {v : Value} {p : Pc.Piece} {w : World} {xs : List Int} (h : PieceIs false w 0 w.heap.size v p) (hr : Pc.right p = true) (hx : Pc.nums p = xs) : Calls Try.prog 29 #[v] w
    fun x w' => (∃ A c, x = .returned (.slice A xs.length c) ∧ SliceIs Rep.int true w' w.heap.size w'.heap.size (.slice A xs.length c) xs) ∧ Below w.heap.size w w' := by
  subst hx
  refine (numbers_any v p w h (Pc.small_of hr)).mono ?_
  rintro x w' ⟨⟨v', rfl, hown⟩, hb⟩
  have h3 := hown.slice (Nat.le_refl _) (Nat.le_refl _)
  obtain ⟨A, c, rfl, _⟩ := id h3
  exact ⟨⟨A, c, rfl, h3⟩, hb⟩
theorem rintsq {v u : Value} {xs ys : List Int} {w : World} (h : SliceIs Rep.int false w 0 w.heap.size v xs) (h' : SliceIs Rep.int false w 0 w.heap.size u ys) (he : xs = ys) : Calls Try.prog 28 #[v, u] w
    fun x w' => x = .returned (.bool true) ∧ Below w.heap.size w w' := by
  refine (rints_any v u xs ys w h h').mono ?_
  rintro x w' ⟨rfl, hq⟩
  exact ⟨by rw [decide_eq_true he], hq.below⟩
/-- Cells that lie there, one behind the other. -/
def Cells (w : World) (g o : Nat) (l : List Value) : Prop := g < w.heap.size ∧ ∀ j u, l[j]? = some u → w.cell? ⟨g, o + j, none⟩ = some u
theorem Cells.next {w w' : World} {g o : Nat} {l : List Value} (h : Cells w g o l) (hb : Below w.heap.size w w') : Cells w' g o l :=
  ⟨Nat.lt_of_lt_of_le h.1 hb.size, fun j u hj => (cell_of_block (hb.block g h.1)).trans (h.2 j u hj)⟩
theorem Cells.four {w : World} {g o : Nat} {a b c d : Value} {t : List Value} (h : Cells w g o (a :: b :: c :: d :: t)) : w.cell? ⟨g, o, none⟩ = some a ∧ w.cell? ⟨g, o + 1, none⟩ = some b ∧ w.cell? ⟨g, o + 2, none⟩ = some c ∧ w.cell? ⟨g, o + 3, none⟩ = some d :=
  ⟨h.2 0 a rfl, h.2 1 b rfl, h.2 2 c rfl, h.2 3 d rfl⟩
theorem SliceIs.int_cells {fr : Bool} {w : World} {lo : Nat} {A : Option Addr} {n c : Nat} {xs : List Int} (h : SliceIs Rep.int fr w lo w.heap.size (.slice A n c) xs) (hx : 0 < xs.length) : ∃ g o, A = some ⟨g, o, none⟩ ∧ Cells w g o (ints xs) := by
  obtain ⟨A', c', he, _, _, cells, ha, hc⟩ := h
  injection he with he _ _
  subst he
  obtain ⟨g, o, rfl, hS, hcells⟩ := hc hx
  refine ⟨g, o, rfl, hS.2, fun j u hj => (hcells j u ?_).1⟩
  rw [all_ints ha]; exact hj
end Go.Proofs.Ytdfgnmdofjhnkaa

/- The frame of a law's proof, for laws of which 'Below' is known behind the call: the arguments read as they did, whatever their types. -/
namespace Go.Proofs.Ytdfgnmdofjhnkaa
open Go.ChangeShapes Go.WideShapes Go.ChangeAt Go.RowKit
section
variable {H : Type} {enc : TypeId × Value → H} {P : Program}

theorem trodAll_stays (hl : laidOutB P = true) {W W' : World} {sp' : Nat → Bool} : ∀ {ts : List TypeId} {vs : List Value} {ds : List (DataW H)} {ps : List MemPlace}, (∀ t ∈ ts, P.readableRec t = true ∧ t < P.types.size) →
    DataW.TrodAll enc P W 0 (fun _ => true) true ts vs ds ps → (∀ p ∈ ps, W.sameAt W' p) → (∀ p ∈ ps, sp' p.block = true) → DataW.TrodAll enc P W' 0 sp' true ts vs ds ps := by
  intro ts
  induction ts with
  | nil =>
    intro vs ds ps _ h _ _
    obtain ⟨rfl, rfl, rfl⟩ := trodAll_nil h
    exact trodAll_mk0
  | cons t ts ih =>
    intro vs ds ps hts h hsame hsp
    obtain ⟨v, vs', d, ds', p, q, rfl, rfl, rfl, h0, r0⟩ := trodAll_cons h
    have h1 := hts t (by simp)
    exact trodAll_cons_mk (WideElems.Trod_stays hl h1.1 h1.2 h0 (fun x hx => hsame x (by simp [hx])) (fun x hx => hsp x (by simp [hx])))
      (ih (fun t ht => hts t (by simp [ht])) r0 (fun x hx => hsame x (by simp [hx])) (fun x hx => hsp x (by simp [hx])))

/-- The post of a law: true; below the old heap nothing has turned; the arguments are as they were. -/
theorem law_post {f : Func} {s : ChangeSpec} {apart fresh handsOn again : Bool} {W W' : World} {args : Array Value} {ds : List (DataW H)} {before : List MemPlace} {tb : TypeId}
    (hl : laidOutB P = true) (hvars : s.vars = []) (hts : ∀ t ∈ f.params.toList, P.readableRec t = true ∧ t < P.types.size) (hrt : f.resultTypes = #[tb]) (htb : P.underlying tb = some .bool)
    (hW : DataW.Whole enc P f.params.toList s.vars apart W args.toList ds [] before) (hA : DataW.TrodAll enc P W 0 (fun _ => true) true f.params.toList args.toList ds before)
    (hspec : s.fn H ds = { results := [.lit (.bool true)], args := ds }) (hb : Below W.heap.size W W') :
    s.post enc P f apart fresh handsOn again W args (.bool true) W' := by
  have hlt : ∀ p ∈ before, p.block < W.heap.size := fun p hp => hW.lt p hp
  have hold : ∀ p ∈ before, (fun b => decide (b < W.heap.size)) p.block = true := fun p hp => by simpa using hlt p hp
  have hspec' : s.fn H (ds ++ []) = { results := [.lit (.bool true)], args := ds } := by rw [List.append_nil]; exact hspec
  have hargs : ∀ sp : Nat → Bool, (∀ p ∈ before, sp p.block = true) → DataW.TrodAll enc P W' 0 sp true f.params.toList args.toList (s.fn H (ds ++ [])).args before := by
    intro sp hsp
    rw [hspec']
    exact trodAll_stays hl hts hA (fun p hp => hb.same (hlt p hp)) hsp
  have hres : ∀ (b : Nat) (sp : Nat → Bool) (hd : Bool), DataW.TrodAll enc P W' b sp hd f.resultTypes.toList ((Value.bool true).resultList f.resultTypes.size) (s.fn H (ds ++ [])).results [] := by
    intro b sp hd
    rw [hspec', hrt]
    exact trodAll_cons_mk (shut_bool htb _) trodAll_mk0
  have hvar : ∀ sp : Nat → Bool, DataW.TrodVars enc P W' sp s.vars (s.fn H (ds ++ [])).vars [] := by
    intro sp
    rw [hspec', hvars]
    rfl
  have hok : ∀ (j : Nat) (t : TypeId) (r : Value), f.resultTypes[j]? = some t → ((Value.bool true).resultList f.resultTypes.size)[j]? = some r → Value.okWide P W' .any 0 t r :=
    ok_one hrt rfl (okWide_bool_mk htb _)
  refine ⟨ds, [], before, [], before, [], hW, hres _ _ _, hargs _ hold, hvar _, World.keptBut_mono (fun p hp => ⟨hp, Or.inr (Or.inl hp)⟩) (hb.frame (· ∈ before)), fun _ => ?_⟩
  obtain ⟨_, _, _, _, _, hz, hn⟩ := hW
  refine ⟨hok, _, _, ([] ++ before) ++ [], ⟨[] ++ before, [], trodAll_append (hargs _ (fun _ _ => rfl)) (hres _ _ _), hvar _, rfl, ?_, ?_⟩, ?_⟩
  · intro b off hp
    have hin : MemPlace.cell b off ∈ before := by simpa using hp
    rw [hb.frozen (hlt _ hin)]
    exact hz b off hin
  · intro ha
    have := hn ha
    simpa using this
  · intro p hp _
    simpa using hp

/-- An argument that is a slice of ints: it reads as a list of numbers. -/
theorem arg_ints {t e : TypeId} {base : Nat} {W : World} {v : Value} {d : DataW H} {p : List MemPlace} (ht : P.underlying t = some (.slice e)) (he : P.underlying e = some (.int .i64)) (hc : P.cellsOf e = 1)
    (hv : Value.okWide P W .any base t v) (h : DataW.Trod enc P W 0 (fun _ => true) true t v d p) : ∃ xs : List Int, ∃ A c, v = .slice A xs.length c ∧ xs.length ≤ c ∧ c ≤ maxLen ∧
      (xs ≠ [] → ∃ g o, A = some ⟨g, o, none⟩ ∧ g < W.heap.size ∧ ∀ k, k < xs.length → W.cell? ⟨g, o + k, none⟩ = some (.int .i64 (xs.getD k 0))) := by
  obtain ⟨a0, len, cap, rfl⟩ := okWide_slice ht hv
  obtain ⟨fuel, hf⟩ := h
  rcases open_ints ht he hc hf with ⟨hcs, _⟩ | ⟨a, len', cap', zs, hcs, _, hl, hm, hz, _, hcell, _⟩
  · simp [Value.cells] at hcs
    obtain ⟨rfl, rfl, rfl⟩ := hcs
    exact ⟨[], none, 0, rfl, by simp, by unfold maxLen; omega, fun h => absurd rfl h⟩
  · simp [Value.cells] at hcs
    obtain ⟨rfl, rfl, rfl⟩ := hcs
    have hzl : len ≤ zs.length := by rw [hz]; simpa using hl
    refine ⟨zs.take len, some a, cap, by simp [Nat.min_eq_left hzl], by simp; omega, hm, fun hne => ?_⟩
    have hpos : 0 < len := by
      rcases Nat.eq_zero_or_pos len with h0 | h0
      · subst h0; simp at hne
      · exact h0
    obtain ⟨g, o, rfl, hcells⟩ := ints_at hcell (by omega)
    have h0 := hcells 0 (by omega)
    have hlt : g < W.heap.size := World.block_lt_of_cell? W _ h0
    refine ⟨g, o, rfl, hlt, fun k hk => ?_⟩
    have hk' : k < len := by simp at hk; omega
    rw [hcells k (by omega)]
    simp [List.getD, hk']

/-- An argument that is an array of two ints. -/
theorem arg_pair {t e : TypeId} {base : Nat} {W : World} {v : Value} {d : DataW H} {p : List MemPlace} (ht : P.underlying t = some (.array 2 e)) (he : P.underlying e = some (.int .i64)) (hc : P.cellsOf e = 1) (hc2 : P.cellsOf t = 2)
    (hv : Value.okWide P W .any base t v) (h : DataW.Trod enc P W 0 (fun _ => true) true t v d p) : ∃ x y : Int, v = .agg #[.int .i64 x, .int .i64 y] := by
  unfold Value.okWide at hv
  rw [ht] at hv
  obtain ⟨cs, rfl, hsz, _⟩ := hv
  rw [hc2] at hsz
  obtain ⟨l⟩ := cs
  match l, hsz with
  | [c0, c1], _ =>
    obtain ⟨fuel, hf⟩ := h
    obtain ⟨xs, m, _, _, _, hlen, hel⟩ := DataW.trod_array ht hf
    rw [hc] at hel
    have e0 := hel 0 (by omega)
    have e1 := hel 1 (by omega)
    have k0 : xs[0]? = some (xs[0]'(by omega)) := List.getElem?_eq_getElem (by omega)
    have k1 : xs[1]? = some (xs[1]'(by omega)) := List.getElem?_eq_getElem (by omega)
    rw [k0] at e0
    rw [k1] at e1
    obtain ⟨x, hx, _⟩ := DataW.trod_int he e0
    obtain ⟨y, hy, _⟩ := DataW.trod_int he e1
    simp [Value.cells] at hx hy
    exact ⟨x, y, by rw [hx, hy]⟩
end
end Go.Proofs.Ytdfgnmdofjhnkaa

/- Arguments of a law that read as lists, lists of lists, pieces. Nothing of the program. -/
namespace Go.Proofs.Ytdfgnmdofjhnkaa
open Go.ChangeShapes Go.WideShapes Go.ChangeAt Go.RowKit
section
variable {H : Type} {enc : TypeId × Value → H} {P : Program} {W : World} {α : Type} {r : Rep α} {t e : TypeId}

/-- Cells of type t that were read ahead of the call read as r says. -/
def Opens (enc : TypeId × Value → H) (P : Program) (W : World) (t : TypeId) (r : Rep α) : Prop :=
  ∀ (fuel : Nat) (cs : List Value) (x : DataW H × List MemPlace), DataW.trod enc P W 0 (fun _ => true) true fuel t cs = some x → ∃ a, r.is false W (rng 0 W.heap.size) cs a

theorem opens_int (ht : P.underlying t = some (.int .i64)) : Opens enc P W t Rep.int := by
  intro fuel cs x h
  obtain ⟨n, rfl, _⟩ := DataW.trod_int ht h
  exact ⟨n, rfl⟩
theorem addr_form {a : Addr} {u : Value} (h : W.cell? a = some u) : a = ⟨a.block, a.off, none⟩ := by
  obtain ⟨b, o, s⟩ := a
  cases s with
  | none => rfl
  | some s =>
    exfalso
    unfold World.cell? at h
    split at h <;> simp at h
theorem all_opens (ho : Opens enc P W e r) (hc : P.cellsOf e = r.size) {a : Addr} {n : Nat} {D : Nat → DataW H} {Pl : Nat → List MemPlace} : ∀ (m k : Nat),
    (∀ i, i < k + m → ∃ cs', W.cells? 0 (a.add (i * P.cellsOf e)) (P.cellsOf e) = some cs' ∧ DataW.trod enc P W 0 (fun _ => true) true n e cs' = some (D i, Pl i)) →
    ∃ cells xs, r.all false W (rng 0 W.heap.size) cells xs ∧ xs.length = m ∧ ∀ j u, cells[j]? = some u → W.cell? ((a.add (k * r.size)).add j) = some u := by
  intro m
  induction m with
  | zero => intro k _; exact ⟨[], [], rfl, rfl, fun j u h => by simp at h⟩
  | succ m ih =>
    intro k h
    obtain ⟨cs, h1, h2⟩ := h k (by omega)
    obtain ⟨x, hx⟩ := ho _ _ _ h2
    obtain ⟨cells, xs, h3, h4, h5⟩ := ih (k + 1) (fun i hi => h i (by omega))
    obtain ⟨_, hl, hat⟩ := World.cells?_some h1
    rw [hc] at hl hat
    refine ⟨cs ++ cells, x :: xs, ⟨cs, cells, rfl, hx, h3⟩, by simp [h4], fun j u hj => ?_⟩
    by_cases hjl : j < cs.length
    · rw [List.getElem?_append_left hjl] at hj
      rw [hat j (by omega)]; exact hj
    · rw [List.getElem?_append_right (by omega)] at hj
      have := h5 _ _ hj
      rw [Go.Deep.add_add] at this ⊢
      rw [show (k + 1) * r.size + (j - cs.length) = k * r.size + j from by rw [Nat.succ_mul]; omega] at this
      exact this
theorem opens_slice (ht : P.underlying t = some (.slice e)) (hc : P.cellsOf e = r.size) (ho : Opens enc P W e r) : Opens enc P W t r.slice := by
  intro fuel cs x h
  rcases Go.Deep.open_slice ht h with ⟨rfl, _⟩ | ⟨a, len, cap, m, n, D, Pl, rfl, _, hl, hm, hmm, _, hel⟩
  · exact ⟨[], _, rfl, SliceOn.none_⟩
  · have hlm : len ≤ m := by rw [hmm]; simpa using hl
    obtain ⟨cells, xs, h1, h2, h3⟩ := all_opens ho hc len 0 (fun i hi => hel i (by omega))
    rw [Nat.zero_mul] at h3
    subst h2
    refine ⟨xs, _, rfl, some a, cap, rfl, hl, hm, cells, h1, fun hpos => ?_⟩
    have hlen := Rep.all_len h1
    have hpos2 : 0 < cells.length := by rw [hlen]; exact Nat.mul_pos hpos r.pos
    have h0 := h3 0 cells[0] (by simp)
    have h0 : W.cell? a = some cells[0] := by simpa [Addr.add] using h0
    have ha := addr_form h0
    have hblk : a.block < W.heap.size := World.block_lt_of_cell? W _ h0
    refine ⟨a.block, a.off, by rw [← ha], ⟨Nat.zero_le _, hblk⟩, fun j u hj => ⟨?_, fun h => by cases h⟩⟩
    have := h3 j u hj
    rw [Go.Deep.add_add, Nat.zero_add, ha, add_at] at this
    exact this
theorem opens_msg {f0 f1 : Field} (hs : P.underlying t = some (.struct #[f0, f1])) (h0 : P.underlying f0.type = some (.int .i64)) (h1 : P.underlying f1.type = some (.int .i64)) (hc : P.cellsOf t = 2) (o0 : f0.offset = 0) (o1 : f1.offset = 1) (c0 : P.cellsOf f0.type = 1) (c1 : P.cellsOf f1.type = 1) :
    Opens enc P W t Rep.msg := by
  intro fuel cs x h
  obtain ⟨xs, n, _, _, hl, hxl, hf⟩ := DataW.trod_struct hs h
  rw [hc] at hl
  match cs, hl, xs, hxl with
  | [u0, u1], _, [x0, x1], _ =>
    have e0 := hf 0 f0 rfl
    have e1 := hf 1 f1 rfl
    rw [o0, c0] at e0
    rw [o1, c1] at e1
    obtain ⟨a, ha, _⟩ := DataW.trod_int h0 e0
    obtain ⟨b, hb, _⟩ := DataW.trod_int h1 e1
    simp at ha hb
    exact ⟨(a, b), by rw [ha, hb]; rfl⟩
theorem opens_piece {f0 f1 f2 f3 f4 f5 : Field} (hs : P.underlying t = some (.struct #[f0, f1, f2, f3, f4, f5])) (h0 : P.underlying f0.type = some (.int .i64)) (h1 : P.underlying f1.type = some (.int .i64)) (h2 : P.underlying f2.type = some (.int .i64))
    (h3 : Opens enc P W f3.type Rep.int.slice) (h4 : Opens enc P W f4.type Rep.msg.slice.slice) (h5 : Opens enc P W f5.type Rep.int.slice.slice) (hc : P.cellsOf t = 6)
    (o : f0.offset = 0 ∧ f1.offset = 1 ∧ f2.offset = 2 ∧ f3.offset = 3 ∧ f4.offset = 4 ∧ f5.offset = 5) (c : P.cellsOf f0.type = 1 ∧ P.cellsOf f1.type = 1 ∧ P.cellsOf f2.type = 1 ∧ P.cellsOf f3.type = 1 ∧ P.cellsOf f4.type = 1 ∧ P.cellsOf f5.type = 1) :
    Opens enc P W t Rep.piece := by
  obtain ⟨o0, o1, o2, o3, o4, o5⟩ := o
  obtain ⟨c0, c1, c2, c3, c4, c5⟩ := c
  intro fuel cs x h
  obtain ⟨xs, n, _, _, hl, hxl, hf⟩ := DataW.trod_struct hs h
  rw [hc] at hl
  match cs, hl, xs, hxl with
  | [u0, u1, u2, u3, u4, u5], _, [x0, x1, x2, x3, x4, x5], _ =>
    have e0 := hf 0 f0 rfl
    have e1 := hf 1 f1 rfl
    have e2 := hf 2 f2 rfl
    have e3 := hf 3 f3 rfl
    have e4 := hf 4 f4 rfl
    have e5 := hf 5 f5 rfl
    rw [o0, c0] at e0
    rw [o1, c1] at e1
    rw [o2, c2] at e2
    rw [o3, c3] at e3
    rw [o4, c4] at e4
    rw [o5, c5] at e5
    obtain ⟨a0, q0, _⟩ := DataW.trod_int h0 e0
    obtain ⟨a1, q1, _⟩ := DataW.trod_int h1 e1
    obtain ⟨a2, q2, _⟩ := DataW.trod_int h2 e2
    obtain ⟨a3, v3, q3, q3'⟩ := h3 _ _ _ e3
    obtain ⟨a4, v4, q4, q4'⟩ := h4 _ _ _ e4
    obtain ⟨a5, v5, q5, q5'⟩ := h5 _ _ _ e5
    simp at q0 q1 q2 q3 q4 q5
    subst q0 q1 q2 q3 q4 q5
    exact ⟨⟨a0, a1, a2, a3, a4, a5⟩, _, _, _, rfl, q3', q4', q5'⟩
/-- An argument of a struct's type. -/
theorem arg_agg {v : Value} {d : DataW H} {p : List MemPlace} {fs : Array Field} {base : Nat} (hs : P.underlying t = some (.struct fs)) (ho : Opens enc P W t r) (hv : Value.okWide P W .any base t v) (h : DataW.Trod enc P W 0 (fun _ => true) true t v d p) :
    ∃ (cs : List Value) (a : α), v = .agg cs.toArray ∧ r.is false W (rng 0 W.heap.size) cs a := by
  obtain ⟨cs, rfl, _⟩ := okWide_struct hs hv
  obtain ⟨fuel, hf⟩ := h
  obtain ⟨a, ha⟩ := ho _ _ _ hf
  exact ⟨cs.toList, a, by simp, ha⟩
/-- An argument that is a slice. -/
theorem arg_slice {v : Value} {d : DataW H} {p : List MemPlace} {base : Nat} (ht : P.underlying t = some (.slice e)) (ho : Opens enc P W t r.slice) (hv : Value.okWide P W .any base t v) (h : DataW.Trod enc P W 0 (fun _ => true) true t v d p) :
    ∃ xs : List α, SliceIs r false W 0 W.heap.size v xs := by
  obtain ⟨a0, len, cap, rfl⟩ := okWide_slice ht hv
  obtain ⟨fuel, hf⟩ := h
  obtain ⟨xs, v, hv, hs⟩ := ho _ _ _ hf
  simp [Value.cells] at hv
  subst hv
  exact ⟨xs, hs⟩
end
end Go.Proofs.Ytdfgnmdofjhnkaa

/- An argument that is a piece. -/
namespace Go.Proofs.Ytdfgnmdofjhnkaa
open Go.ChangeShapes Go.WideShapes Go.ChangeAt Go.RowKit
section
set_option maxRecDepth 100000
variable {H : Type} {enc : TypeId × Value → H} {W : World}
theorem ints_opens : Opens enc Try.prog W 22 Rep.int.slice := opens_slice Try.underlying22 (by kernel_rfl) (opens_int Try.underlying3)
theorem msg_opens : Opens enc Try.prog W 47 Rep.msg := opens_msg Try.underlying47 Try.underlying3 Try.underlying3 (by kernel_rfl) rfl rfl (by kernel_rfl) (by kernel_rfl)
theorem msgs_opens : Opens enc Try.prog W 45 Rep.msg.slice := opens_slice Try.underlying45 (by kernel_rfl) msg_opens
theorem piece_opens : Opens enc Try.prog W 26 Rep.piece :=
  opens_piece Try.underlying26 Try.underlying3 Try.underlying3 Try.underlying3 ints_opens (opens_slice Try.underlying23 (by kernel_rfl) msgs_opens) (opens_slice Try.underlying24 (by kernel_rfl) ints_opens) (by kernel_rfl)
    ⟨rfl, rfl, rfl, rfl, rfl, rfl⟩ ⟨by kernel_rfl, by kernel_rfl, by kernel_rfl, by kernel_rfl, by kernel_rfl, by kernel_rfl⟩
theorem arg_piece {v : Value} {d : DataW H} {p : List MemPlace} {base : Nat} (hv : Value.okWide Try.prog W .any base 26 v) (h : DataW.Trod enc Try.prog W 0 (fun _ => true) true 26 v d p) : ∃ q : Pc.Piece, PieceIs false W 0 W.heap.size v q := by
  obtain ⟨cs, q, rfl, hq⟩ := arg_agg Try.underlying26 piece_opens hv h
  exact ⟨q, PieceIs.of_cells hq⟩
end
end Go.Proofs.Ytdfgnmdofjhnkaa

/- An argument that is a frame. -/
namespace Go.Proofs.Ytdfgnmdofjhnkaa
open Go.ChangeShapes Go.WideShapes Go.ChangeAt Go.RowKit
section
variable {H : Type} {enc : TypeId × Value → H} {P : Program} {W : World} {t : TypeId}
/-- Nine cells that read as a frame. -/
def frCells (W : World) (cs : List Value) (f : Fr) : Prop :=
  ∃ a b, cs = [.int .i64 f.kind, .int .i64 f.epoch, .int .i64 f.seq, .int .i64 f.letter, a, .int .i64 f.init, .int .i64 f.num, .int .i64 f.count, b] ∧ SliceIs Rep.piece false W 0 W.heap.size a f.pieces ∧ SliceIs Rep.int false W 0 W.heap.size b f.path
theorem opens_frame {f0 f1 f2 f3 f4 f5 f6 f7 : Field} (hs : P.underlying t = some (.struct #[f0, f1, f2, f3, f4, f5, f6, f7])) (h0 : P.underlying f0.type = some (.int .i64)) (h1 : P.underlying f1.type = some (.int .i64)) (h2 : Opens enc P W f2.type Rep.msg)
    (h3 : Opens enc P W f3.type Rep.piece.slice) (h4 : P.underlying f4.type = some (.int .i64)) (h5 : P.underlying f5.type = some (.int .i64)) (h6 : P.underlying f6.type = some (.int .i64)) (h7 : Opens enc P W f7.type Rep.int.slice) (hc : P.cellsOf t = 9)
    (o : f0.offset = 0 ∧ f1.offset = 1 ∧ f2.offset = 2 ∧ f3.offset = 4 ∧ f4.offset = 5 ∧ f5.offset = 6 ∧ f6.offset = 7 ∧ f7.offset = 8) (c : P.cellsOf f0.type = 1 ∧ P.cellsOf f1.type = 1 ∧ P.cellsOf f2.type = 2 ∧ P.cellsOf f3.type = 1 ∧ P.cellsOf f4.type = 1 ∧ P.cellsOf f5.type = 1 ∧ P.cellsOf f6.type = 1 ∧ P.cellsOf f7.type = 1)
    (fuel : Nat) (cs : List Value) (x : DataW H × List MemPlace) (h : DataW.trod enc P W 0 (fun _ => true) true fuel t cs = some x) : ∃ f, frCells W cs f := by
  obtain ⟨o0, o1, o2, o3, o4, o5, o6, o7⟩ := o
  obtain ⟨c0, c1, c2, c3, c4, c5, c6, c7⟩ := c
  obtain ⟨xs, n, _, _, hl, hxl, hf⟩ := DataW.trod_struct hs h
  rw [hc] at hl
  match cs, hl, xs, hxl with
  | [u0, u1, u2, u3, u4, u5, u6, u7, u8], _, [x0, x1, x2, x3, x4, x5, x6, x7], _ =>
    have e0 := hf 0 f0 rfl
    have e1 := hf 1 f1 rfl
    have e2 := hf 2 f2 rfl
    have e3 := hf 3 f3 rfl
    have e4 := hf 4 f4 rfl
    have e5 := hf 5 f5 rfl
    have e6 := hf 6 f6 rfl
    have e7 := hf 7 f7 rfl
    rw [o0, c0] at e0
    rw [o1, c1] at e1
    rw [o2, c2] at e2
    rw [o3, c3] at e3
    rw [o4, c4] at e4
    rw [o5, c5] at e5
    rw [o6, c6] at e6
    rw [o7, c7] at e7
    obtain ⟨a0, q0, _⟩ := DataW.trod_int h0 e0
    obtain ⟨a1, q1, _⟩ := DataW.trod_int h1 e1
    obtain ⟨a2, q2⟩ := h2 _ _ _ e2
    obtain ⟨a3, v3, q3, q3'⟩ := h3 _ _ _ e3
    obtain ⟨a4, q4, _⟩ := DataW.trod_int h4 e4
    obtain ⟨a5, q5, _⟩ := DataW.trod_int h5 e5
    obtain ⟨a6, q6, _⟩ := DataW.trod_int h6 e6
    obtain ⟨a7, v7, q7, q7'⟩ := h7 _ _ _ e7
    have m2 : List.take 2 (List.drop 2 [u0, u1, u2, u3, u4, u5, u6, u7, u8]) = [.int .i64 a2.1, .int .i64 a2.2] := q2
    clear q2
    simp at q0 q1 m2 q3 q4 q5 q6 q7
    obtain ⟨m2, m3⟩ := m2
    subst q0 q1 m2 m3 q3 q4 q5 q6 q7
    exact ⟨⟨a0, a1, a2.1, a2.2, a3, a4, a5, a6, a7⟩, _, _, rfl, q3', q7'⟩
set_option maxRecDepth 100000 in
theorem arg_frame {v : Value} {d : DataW H} {p : List MemPlace} {base : Nat} (hv : Value.okWide Try.prog W .any base 58 v) (h : DataW.Trod enc Try.prog W 0 (fun _ => true) true 58 v d p) : ∃ f : Fr, FrIs false W 0 W.heap.size v f := by
  obtain ⟨cs, rfl, _⟩ := okWide_struct Try.underlying58 hv
  obtain ⟨fuel, hf⟩ := h
  obtain ⟨f, a, b, hc, h1, h2⟩ := opens_frame Try.underlying58 Try.underlying3 Try.underlying3 msg_opens (opens_slice Try.underlying55 (by kernel_rfl) piece_opens) Try.underlying3 Try.underlying3 Try.underlying3 ints_opens (by kernel_rfl)
    ⟨rfl, rfl, rfl, rfl, rfl, rfl, rfl, rfl⟩ ⟨by kernel_rfl, by kernel_rfl, by kernel_rfl, by kernel_rfl, by kernel_rfl, by kernel_rfl, by kernel_rfl, by kernel_rfl⟩ _ _ _ hf
  refine ⟨f, ?_⟩
  have hcs : cs = #[.int .i64 f.kind, .int .i64 f.epoch, .int .i64 f.seq, .int .i64 f.letter, a, .int .i64 f.init, .int .i64 f.num, .int .i64 f.count, b] := by
    apply Array.ext'
    simpa [Value.cells] using hc
  rw [hcs]
  exact FrIs.of h1 h2
end
end Go.Proofs.Ytdfgnmdofjhnkaa

/- Contracts of layer 7 in the forms that the laws' walks want. -/
namespace Go.Proofs.Ytdfgnmdofjhnkaa
open Go.RowKit

/-- A frame whose lists are short. -/
def Fr.Small (f : Fr) : Prop := f.pieces.length ≤ 7 ∧ f.path.length ≤ 8 ∧ ∀ p ∈ f.pieces, Pc.sized p
theorem Fr.cut_small (f : Fr) : Fr.Small (Fr.cut f) := by
  refine ⟨by simp only [Fr.cut, List.length_map, List.length_take]; omega, by simp only [Fr.cut, List.length_take]; omega, fun p hp => ?_⟩
  simp only [Fr.cut, List.mem_map] at hp
  obtain ⟨q, _, rfl⟩ := hp
  exact Pc.cut_sized q
theorem FrIs.zero_ {fr : Bool} {w : World} {lo : Nat} {v : Value} {f : Fr} (h : FrIs fr w lo w.heap.size v f) : FrIs false w 0 w.heap.size v f := (h.widen (Nat.zero_le _) (Nat.le_refl _)).soft
theorem FrIs.nine_far {fr : Bool} {w : World} {lo b : Nat} {v : Value} {f : Fr} {a0 a1 a2 a3 a4 a5 a6 a7 a8 : Value} (h : FrIs fr w lo w.heap.size v f) (hb : b < lo) : FrIs fr (wnine w b a0 a1 a2 a3 a4 a5 a6 a7 a8) lo (wnine w b a0 a1 a2 a3 a4 a5 a6 a7 a8).heap.size v f :=
  (h.keep fun q h1 _ => Go.Proofs.Ytdfgnmdofjhnkaa.nine_far (by omega)).widen (Nat.le_refl _) (Nat.le_of_eq nine_size.symm)
theorem Box.nine_far {w : World} {b g : Nat} {cs : Array Value} {T : TypeId} {a0 a1 a2 a3 a4 a5 a6 a7 a8 : Value} (h : Box w g cs T) (hb : g ≠ b) : Box (wnine w b a0 a1 a2 a3 a4 a5 a6 a7 a8) g cs T := (Go.Proofs.Ytdfgnmdofjhnkaa.nine_far hb).trans h
theorem frzero_is {fr : Bool} {w : World} {lo hi : Nat} : FrIs fr w lo hi (.agg #[.int .i64 0, .int .i64 0, .int .i64 0, .int .i64 0, .slice none 0 0, .int .i64 0, .int .i64 0, .int .i64 0, .slice none 0 0]) Fr.zero := FrIs.of (f := Fr.zero) SliceIs.none_ SliceIs.none_
variable {v u : Value} {f g : Fr} {w : World}
theorem cenc {S : ByteArray} {n : Int} (h : FrIs false w 0 w.heap.size v f) (he : ByteArray.mk (Fr.enc f).toArray = S) (hr : Fr.err f = n) : Calls Try.prog 31 #[v] w
    fun x w' => x = .returned (.tuple #[.string S, .int .i64 n]) ∧ Below w.heap.size w w' := by subst he hr; exact frencode_any v f w h
theorem crenc {S : ByteArray} {n : Int} (h : FrIs false w 0 w.heap.size v f) (he : ByteArray.mk (Fr.enc f).toArray = S) (hr : Fr.err f = n) : Calls Try.prog 32 #[v] w
    fun x w' => x = .returned (.tuple #[.string S, .int .i64 n]) ∧ Below w.heap.size w w' := by subst he hr; exact rfrencode_any v f w h
theorem cright {b : Bool} (h : FrIs false w 0 w.heap.size v f) (hr : Fr.right f = b) : Calls Try.prog 36 #[v] w fun x w' => x = .returned (.bool b) ∧ Below w.heap.size w w' := by subst hr; exact frright_any v f w h
theorem crright {b : Bool} (h : FrIs false w 0 w.heap.size v f) (hr : Fr.right f = b) : Calls Try.prog 37 #[v] w fun x w' => x = .returned (.bool b) ∧ Below w.heap.size w w' := by subst hr; exact rfrright_any v f w h
theorem csame {b : Bool} (h : FrIs false w 0 w.heap.size v f) (h' : FrIs false w 0 w.heap.size u g) (he : decide (f = g) = b) : Calls Try.prog 38 #[v, u] w fun x w' => x = .returned (.bool b) ∧ Below w.heap.size w w' := by subst he; exact frsame_any v u f g w h h'
theorem crsame {b : Bool} (h : FrIs false w 0 w.heap.size v f) (h' : FrIs false w 0 w.heap.size u g) (he : decide (f = g) = b) : Calls Try.prog 39 #[v, u] w fun x w' => x = .returned (.bool b) ∧ Below w.heap.size w w' := by subst he; exact rfrsame_any v u f g w h h'
theorem ccut (h : FrIs false w 0 w.heap.size v g) (he : Fr.cut g = f) : Calls Try.prog 30 #[v] w
    fun x w' => (∃ A k B l, x = .returned (.agg #[.int .i64 f.kind, .int .i64 f.epoch, .int .i64 f.seq, .int .i64 f.letter, .slice A f.pieces.length k, .int .i64 f.init, .int .i64 f.num, .int .i64 f.count, .slice B f.path.length l]) ∧ FrIs false w' w.heap.size w'.heap.size (.agg #[.int .i64 f.kind, .int .i64 f.epoch, .int .i64 f.seq, .int .i64 f.letter, .slice A f.pieces.length k, .int .i64 f.init, .int .i64 f.num, .int .i64 f.count, .slice B f.path.length l]) f) ∧ Below w.heap.size w w' := by
  subst he
  refine (frcut_any v g w h).mono ?_
  rintro x w' ⟨⟨v, rfl, hv⟩, hb⟩
  have hv' := hv
  obtain ⟨A, B, k, l, rfl, _, _⟩ := hv'
  exact ⟨⟨A, k, B, l, rfl, hv⟩, hb⟩
theorem cref (h : FrIs false w 0 w.heap.size v f) (hs : f.Small) : Calls Try.prog 33 #[v] w
    fun x w' => (∃ A k B l, x = .returned (.agg #[.int .i64 f.kind, .int .i64 f.epoch, .int .i64 f.seq, .int .i64 f.letter, .slice A f.pieces.length k, .int .i64 f.init, .int .i64 f.num, .int .i64 f.count, .slice B f.path.length l]) ∧ FrIs false w' 0 w'.heap.size (.agg #[.int .i64 f.kind, .int .i64 f.epoch, .int .i64 f.seq, .int .i64 f.letter, .slice A f.pieces.length k, .int .i64 f.init, .int .i64 f.num, .int .i64 f.count, .slice B f.path.length l]) f) ∧ Below w.heap.size w w' := by
  refine (frref_any v f w h (by have := hs.1; omega)).mono ?_
  rintro x w' ⟨⟨v, rfl, hv⟩, hb⟩
  have hv' := hv
  obtain ⟨A, B, k, l, rfl, _, _⟩ := hv'
  exact ⟨⟨A, k, B, l, rfl, hv⟩, hb⟩
theorem cown (h : FrIs false w 0 w.heap.size v f) (hs : f.Small) : Calls Try.prog 40 #[v] w
    fun x w' => (∃ A k B l, x = .returned (.agg #[.int .i64 f.kind, .int .i64 f.epoch, .int .i64 f.seq, .int .i64 f.letter, .slice A f.pieces.length k, .int .i64 f.init, .int .i64 f.num, .int .i64 f.count, .slice B f.path.length l]) ∧ FrIs false w' 0 w'.heap.size (.agg #[.int .i64 f.kind, .int .i64 f.epoch, .int .i64 f.seq, .int .i64 f.letter, .slice A f.pieces.length k, .int .i64 f.init, .int .i64 f.num, .int .i64 f.count, .slice B f.path.length l]) f) ∧ Below w.heap.size w w' := by
  refine (frownc v f w h (by have := hs.1; omega) (by have := hs.2.1; omega) hs.2.2).mono ?_
  rintro x w' ⟨⟨v, rfl, hv⟩, hb⟩
  have hv' := hv
  obtain ⟨A, B, k, l, rfl, _, _⟩ := hv'
  exact ⟨⟨A, k, B, l, rfl, hv⟩, hb⟩
theorem cdec {s : ByteArray} {l : List UInt8} {n : Int} (w : World) (hl : s.data.toList = l) (hs : l.length ≤ 1000000) (hd : Fr.dec l = f ∧ Fr.decE l = n) : Calls Try.prog 34 #[.string s] w
    fun x w' => (∃ A k B l, x = .returned (.tuple #[.agg #[.int .i64 f.kind, .int .i64 f.epoch, .int .i64 f.seq, .int .i64 f.letter, .slice A f.pieces.length k, .int .i64 f.init, .int .i64 f.num, .int .i64 f.count, .slice B f.path.length l], .int .i64 n]) ∧ FrIs false w' 0 w'.heap.size (.agg #[.int .i64 f.kind, .int .i64 f.epoch, .int .i64 f.seq, .int .i64 f.letter, .slice A f.pieces.length k, .int .i64 f.init, .int .i64 f.num, .int .i64 f.count, .slice B f.path.length l]) f) ∧ Below w.heap.size w w' := by
  obtain ⟨rfl, rfl⟩ := hd
  subst hl
  have hs' : s.size ≤ 1000000 := by
    have : s.size = s.data.toList.length := by rw [Array.length_toList]; rfl
    omega
  refine (frdecode_any s w hs').mono ?_
  rintro x w' ⟨⟨v, rfl, hv⟩, hb⟩
  have hv' := hv
  obtain ⟨A, B, k, l, rfl, _, _⟩ := hv'
  exact ⟨⟨A, k, B, l, rfl, hv⟩, hb⟩
theorem crdec {s : ByteArray} {l : List UInt8} {n : Int} (w : World) (hl : s.data.toList = l) (hs : l.length ≤ 1000000) (hd : Fr.dec l = f ∧ Fr.decE l = n) : Calls Try.prog 35 #[.string s] w
    fun x w' => (∃ A k B l, x = .returned (.tuple #[.agg #[.int .i64 f.kind, .int .i64 f.epoch, .int .i64 f.seq, .int .i64 f.letter, .slice A f.pieces.length k, .int .i64 f.init, .int .i64 f.num, .int .i64 f.count, .slice B f.path.length l], .int .i64 n]) ∧ FrIs false w' 0 w'.heap.size (.agg #[.int .i64 f.kind, .int .i64 f.epoch, .int .i64 f.seq, .int .i64 f.letter, .slice A f.pieces.length k, .int .i64 f.init, .int .i64 f.num, .int .i64 f.count, .slice B f.path.length l]) f) ∧ Below w.heap.size w w' := by
  obtain ⟨rfl, rfl⟩ := hd
  subst hl
  have hs' : s.size ≤ 1000000 := by
    have : s.size = s.data.toList.length := by rw [Array.length_toList]; rfl
    omega
  refine (rfrdecode_any s w hs').mono ?_
  rintro x w' ⟨⟨v, rfl, hv⟩, hb⟩
  have hv' := hv
  obtain ⟨A, B, k, l, rfl, _, _⟩ := hv'
  exact ⟨⟨A, k, B, l, rfl, hv⟩, hb⟩
namespace Fr
theorem nums_short {f : Fr} (h : right f = true) : (heads f).length ≤ 11 := by
  unfold heads
  split
  · simp
  · split
    · rename_i h6
      have := (right_nums6 h h6).2.2.2.1
      simp
      omega
    · simp
theorem texts_len : ∀ (l : List Pc.Piece), (∀ p ∈ l, Pc.right p = true) → (texts l).length ≤ l.length * 41000 := by
  intro l
  induction l with
  | nil => intro _; simp [texts]
  | cons p l ih =>
    intro h
    have h1 := enc_le (h p (by simp))
    have h2 := ih fun q hq => h q (by simp [hq])
    have h3 : (W.put ((Pc.enc p).length : Int)).length ≤ 5 := by have := W.puts_len [((Pc.enc p).length : Int)]; simpa [W.puts] using this
    have e : texts (p :: l) = W.text (Pc.enc p) ++ texts l := by simp [texts]
    rw [e, List.length_append, List.length_cons, Nat.succ_mul]
    simp only [W.text, List.length_append]
    omega
theorem body_len {f : Fr} (h : right f = true) : (body f).length ≤ 300000 := by
  by_cases h5 : f.kind = 5
  · rw [body_5' h5, List.length_append]
    obtain ⟨_, h1, h2⟩ := right_pieces h h5
    have h3 := texts_len f.pieces h2
    have h4 := W.puts_len [5, f.epoch, (f.pieces.length : Int)]
    simp at h4
    omega
  · rw [body_heads h5]
    have h1 := nums_short h
    have h2 := W.puts_len (heads f)
    omega
theorem enc_len (f : Fr) : (enc f).length ≤ 1000000 := by
  unfold enc
  split
  · rename_i h; have := body_len h; omega
  · simp
theorem enc_yes {f : Fr} (h : right f = true) : err f = 0 ∧ enc f = body f := by simp [err, enc, h]
theorem enc_not {f : Fr} (h : right f = false) : err f = 4 ∧ enc f = [] := by simp [err, enc, h]
theorem dec_right {l : List UInt8} (h : decE l = 0) : right (dec l) = true ∧ body (dec l) = l := by
  rcases dec_or l with h1 | h1
  · exact ⟨h1.1, h1.2.1⟩
  · rw [h1.2.1] at h; exact absurd h (by decide)
theorem dec_zero {l : List UInt8} (h : decE l ≠ 0) : dec l = zero ∧ decE l = 4 := by
  rcases dec_or l with h1 | h1
  · exact absurd h1.2.2 h
  · exact ⟨h1.1, h1.2.1⟩
theorem dec_enc {f : Fr} (h : right f = true) : dec (enc f) = f ∧ decE (enc f) = 0 := by
  rw [(enc_yes h).2]; exact dec_yes h rfl
end Fr
end Go.Proofs.Ytdfgnmdofjhnkaa
