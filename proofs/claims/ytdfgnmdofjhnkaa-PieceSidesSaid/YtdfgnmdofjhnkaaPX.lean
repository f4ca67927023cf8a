/- cameolaw06.fixed: calls whose answers the document fixes. -/
import Derived.Test.YtdfgnmdofjhnkaaPW
import Derived.Test.YtdfgnmdofjhnkaaPF
namespace Go.Proofs.Ytdfgnmdofjhnkaa
open Go.RowKit

theorem Box.new' {w : World} {n : Nat} (cs : Array Value) (T : TypeId) (h : w.heap.size = n) : Box (w.alloc (.cells cs T)) n cs T := by subst h; exact Box.new _ _ _
theorem encodec {v : Value} {p : Pc.Piece} {w : World} {l : List UInt8} {n : Int} (h : PieceIs false w 0 w.heap.size v p) (he : Pc.enc p = l) (hr : Pc.err p = n) : Calls Try.prog 16 #[v] w
    fun x w' => x = .returned (.tuple #[.string ⟨l.toArray⟩, .int .i64 n]) ∧ Below w.heap.size w w' := by
  subst he hr; exact encode_any v p w h
theorem decodec {s : ByteArray} {l : List UInt8} {p : Pc.Piece} {n : Int} (w : World) (hl : s.data.toList = l) (hs : l.length ≤ 1000) (hp : Pc.dec l = p) (hn : Pc.decE l = n) : Calls Try.prog 19 #[.string s] w
    fun x w' => (∃ A1 c1 A2 c2 A3 c3, x = .returned (.tuple #[.agg #[.int .i64 p.node, .int .i64 p.state, .int .i64 p.steps, .slice A1 p.sent.length c1, .slice A2 p.inn.length c2, .slice A3 p.out.length c3], .int .i64 n]) ∧ PieceIs true w' w.heap.size w'.heap.size (.agg #[.int .i64 p.node, .int .i64 p.state, .int .i64 p.steps, .slice A1 p.sent.length c1, .slice A2 p.inn.length c2, .slice A3 p.out.length c3]) p) ∧ Below w.heap.size w w' := by
  subst hl hp hn
  have hs' : s.size ≤ 1000000 := by
    have : s.size = s.data.toList.length := by rw [Array.length_toList]; rfl
    omega
  refine (decode_any s w hs').mono ?_
  rintro x w' ⟨⟨v, rfl, hv⟩, hb⟩
  have hv' := hv
  obtain ⟨_, _, _, rfl, ⟨A1, c1, rfl, _⟩, ⟨A2, c2, rfl, _⟩, ⟨A3, c3, rfl, _⟩⟩ := hv'
  exact ⟨⟨A1, c1, A2, c2, A3, c3, rfl, hv⟩, hb⟩

def P1 : Pc.Piece := ⟨1, 2, 3, [], [], []⟩
def Q1 : Pc.Piece := ⟨1, 0, 0, [4], [[(2, 3)]], [[0, 1]]⟩
def B1 : Pc.Piece := ⟨6, 0, 0, [], [], []⟩
def s1 : List UInt8 := [1, 2, 3, 0, 0, 0]
def s2 : List UInt8 := [1, 0, 0, 1, 4, 1, 1, 2, 3, 1, 2, 0, 1]

set_option maxRecDepth 100000 in
set_option maxHeartbeats 8000000 in
theorem fixed6_any (w : World) : Calls Try.prog 26 #[] w fun x w' => x = .returned (.bool true) ∧ Below w.heap.size w w' := by
  go_enter Try.func26, Try.ntmps26
  go_wp2_with fail
  refine name_call fun W0 hW0 => ?_
  have bx0 : Box W0 (w.heap.size) #[.int .i64 1, .int .i64 2, .int .i64 3, .slice none 0 0, .slice none 0 0, .slice none 0 0] 26 := hW0 ▸ (((((((Box.new' #[.int .i64 1, .int .i64 2, .int .i64 3, .slice none 0 0, .slice none 0 0, .slice none 0 0] 26 (by simp)).alloc _).alloc _).alloc _).alloc _).alloc _).alloc _)
  have bx1 : Box W0 (w.heap.size + 1) #[.int .i64 4] 3 := hW0 ▸ ((((((Box.new' #[.int .i64 4] 3 (by simp)).alloc _).alloc _).alloc _).alloc _).alloc _)
  have bx2 : Box W0 (w.heap.size + 1 + 1) #[.int .i64 2, .int .i64 3] 47 := hW0 ▸ (((((Box.new' #[.int .i64 2, .int .i64 3] 47 (by simp)).alloc _).alloc _).alloc _).alloc _)
  have bx3 : Box W0 (w.heap.size + 1 + 1 + 1) #[.slice (some ⟨w.heap.size + 1 + 1, 0, none⟩) 1 1] 45 := hW0 ▸ ((((Box.new' #[.slice (some ⟨w.heap.size + 1 + 1, 0, none⟩) 1 1] 45 (by simp)).alloc _).alloc _).alloc _)
  have bx4 : Box W0 (w.heap.size + 1 + 1 + 1 + 1) #[.int .i64 0, .int .i64 1] 3 := hW0 ▸ (((Box.new' #[.int .i64 0, .int .i64 1] 3 (by simp)).alloc _).alloc _)
  have bx5 : Box W0 (w.heap.size + 1 + 1 + 1 + 1 + 1) #[.slice (some ⟨w.heap.size + 1 + 1 + 1 + 1, 0, none⟩) 2 2] 22 := hW0 ▸ ((Box.new' #[.slice (some ⟨w.heap.size + 1 + 1 + 1 + 1, 0, none⟩) 2 2] 22 (by simp)).alloc _)
  have bx6 : Box W0 (w.heap.size + 1 + 1 + 1 + 1 + 1 + 1) #[.int .i64 1, .int .i64 0, .int .i64 0, .slice (some ⟨w.heap.size + 1, 0, none⟩) 1 1, .slice (some ⟨w.heap.size + 1 + 1 + 1, 0, none⟩) 1 1, .slice (some ⟨w.heap.size + 1 + 1 + 1 + 1 + 1, 0, none⟩) 1 1] 26 := hW0 ▸ (Box.new' #[.int .i64 1, .int .i64 0, .int .i64 0, .slice (some ⟨w.heap.size + 1, 0, none⟩) 1 1, .slice (some ⟨w.heap.size + 1 + 1 + 1, 0, none⟩) 1 1, .slice (some ⟨w.heap.size + 1 + 1 + 1 + 1 + 1, 0, none⟩) 1 1] 26 (by simp))
  have hB : Below w.heap.size w W0 := hW0 ▸ (((((((Below.refl _ _).alloc (by simp) _).alloc (by first | (simp; done) | (simp; omega)) _).alloc (by first | (simp; done) | (simp; omega)) _).alloc (by first | (simp; done) | (simp; omega)) _).alloc (by first | (simp; done) | (simp; omega)) _).alloc (by first | (simp; done) | (simp; omega)) _).alloc (by first | (simp; done) | (simp; omega)) _
  have hp : PieceIs false W0 0 W0.heap.size (.agg #[.int .i64 1, .int .i64 2, .int .i64 3, .slice none 0 0, .slice none 0 0, .slice none 0 0]) P1 := ⟨_, _, _, rfl, SliceIs.none_, SliceIs.none_, SliceIs.none_⟩
  have hq : PieceIs false W0 0 W0.heap.size (.agg #[.int .i64 1, .int .i64 0, .int .i64 0, .slice (some ⟨w.heap.size + 1, 0, none⟩) 1 1, .slice (some ⟨w.heap.size + 1 + 1 + 1, 0, none⟩) 1 1, .slice (some ⟨w.heap.size + 1 + 1 + 1 + 1 + 1, 0, none⟩) 1 1]) Q1 := by
    refine ⟨_, _, _, rfl, SliceOn.is_ ?_, SliceOn.is_ ?_, SliceOn.is_ ?_⟩
    · exact SliceOn.of_block (cells := [.int .i64 4]) bx1 (ints_all _ _ _ [4]) ⟨Nat.zero_le _, bx1.lt⟩ rfl (by decide) (by unfold maxLen; omega)
    · refine SliceOn.of_block (cells := [.slice (some ⟨w.heap.size + 1 + 1, 0, none⟩) 1 1]) bx3 ⟨[_], [], rfl, ⟨_, rfl, ?_⟩, rfl⟩ ⟨Nat.zero_le _, bx3.lt⟩ rfl (by decide) (by unfold maxLen; omega)
      exact SliceOn.of_block (r := Rep.msg) (xs := [(2, 3)]) (cells := [.int .i64 2, .int .i64 3]) bx2 ⟨[_, _], [], rfl, rfl, rfl⟩ ⟨Nat.zero_le _, bx2.lt⟩ rfl (by decide) (by unfold maxLen; omega)
    · refine SliceOn.of_block (cells := [.slice (some ⟨w.heap.size + 1 + 1 + 1 + 1, 0, none⟩) 2 2]) bx5 ⟨[_], [], rfl, ⟨_, rfl, ?_⟩, rfl⟩ ⟨Nat.zero_le _, bx5.lt⟩ rfl (by decide) (by unfold maxLen; omega)
      exact SliceOn.of_block (r := Rep.int) (xs := [0, 1]) (cells := [.int .i64 0, .int .i64 1]) bx4 (ints_all _ _ _ [0, 1]) ⟨Nat.zero_le _, bx4.lt⟩ rfl (by decide) (by unfold maxLen; omega)
  clear bx1 bx2 bx3 bx4 bx5 hW0
  refine (encodec (p := P1) (l := s1) (n := 0) hp (by decide) (by decide)).mono ?_
  rintro e w1 ⟨rfl, hb⟩
  replace bx0 := bx0.next hb
  replace bx6 := bx6.next hb
  replace hp := hp.next hb
  replace hq := hq.next hb
  replace hB := hB.trans (hb.mono hB.size)
  clear hb
  obtain ⟨d0, d1, d2, d3, d4, d5⟩ := bx6.six
  unfold s1
  go_wp2_with fail
  clear d0 d1 d2 d3 d4 d5
  refine (encodec (p := Q1) (l := s2) (n := 0) hq (by decide) (by decide)).mono ?_
  rintro e w2 ⟨rfl, hb⟩
  replace bx0 := bx0.next hb
  replace bx6 := bx6.next hb
  replace hp := hp.next hb
  replace hq := hq.next hb
  replace hB := hB.trans (hb.mono hB.size)
  clear hb
  unfold s2
  go_wp2_with fail
  refine (decodec (p := Q1) (n := 0) _ rfl (by decide) (by decide) (by decide)).mono ?_
  rintro e w3 ⟨⟨X1, x1, X2, x2, X3, x3, rfl, hx⟩, hb⟩
  replace bx0 := bx0.next hb
  replace bx6 := bx6.next hb
  replace hp := hp.next hb
  replace hq := hq.next hb
  replace hB := hB.trans (hb.mono hB.size)
  clear hb
  dsimp only [Q1, List.length_cons, List.length_nil] at hx ⊢
  go_wp2_with fail
  refine (decodec (s := ⟨#[1]⟩) (l := [1]) (p := Pc.zero) (n := 4) _ rfl (by decide) (by decide) (by decide)).mono ?_
  rintro e w4 ⟨⟨Y1, y1, Y2, y2, Y3, y3, rfl, hy⟩, hb⟩
  have bx7 := (Box.new w3 #[.int .i64 1, .int .i64 0, .int .i64 0, .slice X1 1 x1, .slice X2 1 x2, .slice X3 1 x3] 26).next hb
  replace hb : Below w3.heap.size w3 w4 := ((Below.refl _ _).alloc (Nat.le_refl _) _).trans (hb.mono (by simp))
  replace bx0 := bx0.next hb
  replace bx6 := bx6.next hb
  replace hp := hp.next hb
  replace hq := hq.next hb
  replace hx := hx.next hb
  replace hB := hB.trans (hb.mono hB.size)
  clear hb
  dsimp only [Pc.zero, List.length_nil] at hy ⊢
  clear hy
  go_wp2_with fail
  refine (encodec (p := B1) (l := []) (n := 4) ⟨_, _, _, rfl, SliceIs.none_, SliceIs.none_, SliceIs.none_⟩ (by decide) (by decide)).mono ?_
  rintro e w5 ⟨rfl, hb⟩
  have by9 := (Box.new w4 #[.int .i64 0, .int .i64 0, .int .i64 0, .slice Y1 0 y1, .slice Y2 0 y2, .slice Y3 0 y3] 26).next hb
  replace hb : Below w4.heap.size w4 w5 := ((Below.refl _ _).alloc (Nat.le_refl _) _).trans (hb.mono (by simp))
  replace bx0 := bx0.next hb
  replace bx6 := bx6.next hb
  replace hp := hp.next hb
  replace hq := hq.next hb
  replace hx := hx.next hb
  replace bx7 := bx7.next hb
  replace hB := hB.trans (hb.mono hB.size)
  clear hb
  go_wp2_with fail
  clear by9
  refine (decodec (l := [1, 2, 3, 0, 0, 0, 0]) (p := Pc.zero) (n := 4) _ rfl (by decide) (by decide) (by decide)).mono ?_
  rintro e w6 ⟨⟨Z1, z1, Z2, z2, Z3, z3, rfl, hy⟩, hb⟩
  replace bx0 := bx0.next hb
  replace bx6 := bx6.next hb
  replace hp := hp.next hb
  replace hq := hq.next hb
  replace hx := hx.next hb
  replace bx7 := bx7.next hb
  replace hB := hB.trans (hb.mono hB.size)
  clear hb
  dsimp only [Pc.zero, List.length_nil] at hy ⊢
  clear hy
  go_wp2_with fail
  refine name_wp fun W1 hW1 => ?_
  have hb : Below w6.heap.size w6 W1 := hW1 ▸ (Below.refl _ _).alloc (Nat.le_refl _) _
  replace bx0 := bx0.next hb
  replace bx6 := bx6.next hb
  replace hp := hp.next hb
  replace hq := hq.next hb
  replace hx := hx.next hb
  replace bx7 := bx7.next hb
  replace hB := hB.trans (hb.mono hB.size)
  clear hb hW1
  replace bx0 := bx0.next ((Below.refl _ _).drew)
  replace bx6 := bx6.next ((Below.refl _ _).drew)
  replace hp := hp.next ((Below.refl _ _).drew)
  replace hq := hq.next ((Below.refl _ _).drew)
  replace hx := hx.next ((Below.refl _ _).drew)
  replace bx7 := bx7.next ((Below.refl _ _).drew)
  replace hB := hB.drew
  have hE := Ext.refl (W1.drew)
  refine region_go 486969851652145152 (by kernel_rfl) ?_
  obtain ⟨c0, c1, c2, c3, c4, c5⟩ := bx7.six
  refine wpAny_go 486969851652145152 0 [0, 1, 2, 3, 4, 5, 6, 7, 8, 9, 10, 11, 12, 13, 14, 15] 65535 45 (by kernel_rfl) (by kernel_rfl) (fun _ _ _ _ _ h => h) (by kernel_rfl) (by rfl) (by rfl) (by kernel_rfl) ?_
  simp only [List.map_cons, List.map_nil, List.getD_cons_succ, List.getD_cons_zero]
  go_wp2_with fail
  change wpAnyM _ _ _ _ _ _ _ _ _ _
  clear c0 c1 c2 c3 c4 c5
  obtain ⟨d0, d1, d2, d3, d4, d5⟩ := bx6.six
  refine wpAny_reads 486969851652145152 65535 [17] 196607 44 (by kernel_rfl) (by kernel_rfl) (fun _ _ _ _ _ h => h) (by kernel_rfl) (by rfl) (by rfl) (by kernel_rfl) ?_
  simp only [List.map_cons, List.map_nil, List.getD_cons_succ, List.getD_cons_zero]
  go_wp2_with fail
  change _ → wpAnyM _ _ _ _ _ _ _ _ _ _; intro _
  clear d0 d1 d2 d3 d4 d5
  refine wpAny_oneM 16 262143 (by kernel_rfl) (by kernel_rfl) (of_decide_eq_true (by kernel_rfl)) (by rfl) ?_
  simp only [List.getD_cons_succ, List.getD_cons_zero]
  go_wp2_with fail
  refine (ref_any _ Q1 _ hx).mono ?_
  rintro e w7 ⟨rfl, hb⟩
  replace bx0 := bx0.next hb
  replace bx6 := bx6.next hb
  replace hp := hp.next hb
  replace hq := hq.next hb
  replace hx := hx.next hb
  replace bx7 := bx7.next hb
  replace hE := hE.trans (Ext.below hb (Nat.le_refl _))
  replace hB := hB.trans (hb.mono hB.size)
  clear hb
  go_wp2_with fail
  refine ⟨fun _ => hE, ?_⟩
  refine wpAny_oneM 18 524287 (by kernel_rfl) (by kernel_rfl) (of_decide_eq_true (by kernel_rfl)) (by rfl) ?_
  simp only [List.getD_cons_succ, List.getD_cons_zero]
  go_wp2_with fail
  refine (ref_any _ Q1 _ hq).mono ?_
  rintro e w8 ⟨rfl, hb⟩
  replace bx0 := bx0.next hb
  replace bx6 := bx6.next hb
  replace hp := hp.next hb
  replace hq := hq.next hb
  replace hx := hx.next hb
  replace bx7 := bx7.next hb
  replace hE := hE.trans (Ext.below hb (Nat.le_refl _))
  replace hB := hB.trans (hb.mono hB.size)
  clear hb
  go_wp2_with fail
  refine ⟨fun _ => hE, ?_⟩
  refine wpAny_oneM 19 1048575 (by kernel_rfl) (by kernel_rfl) (of_decide_eq_true (by kernel_rfl)) (by rfl) ?_
  simp only [List.getD_cons_succ, List.getD_cons_zero]
  go_wp2_with fail
  refine (rsame_any _ _ Q1 Q1 _ hx.zero_ hq).mono ?_
  rintro e w9 ⟨rfl, hb⟩
  replace bx0 := bx0.next hb
  replace bx6 := bx6.next hb
  replace hp := hp.next hb
  replace hq := hq.next hb
  replace hx := hx.next hb
  replace bx7 := bx7.next hb
  replace hE := hE.trans (Ext.below hb (Nat.le_refl _))
  replace hB := hB.trans (hb.mono hB.size)
  clear hb
  rw [show decide (Q1 = Q1) = true from rfl]
  go_wp2_with fail
  refine ⟨fun _ => hE, ?_⟩
  obtain ⟨d0, d1, d2, d3, d4, d5⟩ := bx6.six
  refine wpAny_go 486969851652145152 1048575 [20, 21, 22, 23, 24, 25, 26, 27, 28, 29, 30, 31, 32, 33, 34, 35, 36, 37, 38] 549755813887 22 (by kernel_rfl) (by kernel_rfl) (fun _ _ _ _ _ h => h) (by kernel_rfl) (by rfl) (by rfl) (by kernel_rfl) ?_
  simp only [List.map_cons, List.map_nil, List.getD_cons_succ, List.getD_cons_zero]
  go_wp2_with fail
  change wpAnyM _ _ _ _ _ _ _ _ _ _
  clear d0 d1 d2 d3 d4 d5
  refine wpAny_oneM 39 1099511627775 (by kernel_rfl) (by kernel_rfl) (of_decide_eq_true (by kernel_rfl)) (by rfl) ?_
  simp only [List.getD_cons_succ, List.getD_cons_zero]
  go_wp2_with fail
  refine (right_any _ Q1 _ hq).mono ?_
  rintro e w10 ⟨rfl, hb⟩
  replace bx0 := bx0.next hb
  replace bx6 := bx6.next hb
  replace hp := hp.next hb
  replace hq := hq.next hb
  replace hx := hx.next hb
  replace bx7 := bx7.next hb
  replace hE := hE.trans (Ext.below hb (Nat.le_refl _))
  replace hB := hB.trans (hb.mono hB.size)
  clear hb
  rw [show Pc.right Q1 = true from by decide]
  go_wp2_with fail
  refine ⟨fun _ => hE, ?_⟩
  obtain ⟨d0, d1, d2, d3, d4, d5⟩ := bx6.six
  refine wpAny_go 486969851652145152 1099511627775 [40, 41, 42, 43] 17592186044415 17 (by kernel_rfl) (by kernel_rfl) (fun _ _ _ _ _ h => h) (by kernel_rfl) (by rfl) (by rfl) (by kernel_rfl) ?_
  simp only [List.map_cons, List.map_nil, List.getD_cons_succ, List.getD_cons_zero]
  go_wp2_with fail
  change wpAnyM _ _ _ _ _ _ _ _ _ _
  clear d0 d1 d2 d3 d4 d5
  refine wpAny_oneM 44 35184372088831 (by kernel_rfl) (by kernel_rfl) (of_decide_eq_true (by kernel_rfl)) (by rfl) ?_
  simp only [List.getD_cons_succ, List.getD_cons_zero]
  go_wp2_with fail
  refine (same_any _ _ Q1 Q1 _ hq hq).mono ?_
  rintro e w11 ⟨rfl, hb⟩
  replace bx0 := bx0.next hb
  replace bx6 := bx6.next hb
  replace hp := hp.next hb
  replace hq := hq.next hb
  replace hx := hx.next hb
  replace bx7 := bx7.next hb
  replace hE := hE.trans (Ext.below hb (Nat.le_refl _))
  replace hB := hB.trans (hb.mono hB.size)
  clear hb
  rw [show decide (Q1 = Q1) = true from rfl]
  go_wp2_with fail
  refine ⟨fun _ => hE, ?_⟩
  obtain ⟨c0, c1, c2, c3, c4, c5⟩ := bx0.six
  obtain ⟨d0, d1, d2, d3, d4, d5⟩ := bx6.six
  refine wpAny_go 486969851652145152 35184372088831 [45, 46, 47, 48] 562949953421311 12 (by kernel_rfl) (by kernel_rfl) (fun _ _ _ _ _ h => h) (by kernel_rfl) (by rfl) (by rfl) (by kernel_rfl) ?_
  simp only [List.map_cons, List.map_nil, List.getD_cons_succ, List.getD_cons_zero]
  go_wp2_with fail
  change wpAnyM _ _ _ _ _ _ _ _ _ _
  clear c0 c1 c2 c3 c4 c5
  clear d0 d1 d2 d3 d4 d5
  refine wpAny_oneM 49 1125899906842623 (by kernel_rfl) (by kernel_rfl) (of_decide_eq_true (by kernel_rfl)) (by rfl) ?_
  simp only [List.getD_cons_succ, List.getD_cons_zero]
  go_wp2_with fail
  refine (same_any _ _ P1 Q1 _ hp hq).mono ?_
  rintro e w12 ⟨rfl, hb⟩
  replace bx0 := bx0.next hb
  replace bx6 := bx6.next hb
  replace hp := hp.next hb
  replace hq := hq.next hb
  replace hx := hx.next hb
  replace bx7 := bx7.next hb
  replace hE := hE.trans (Ext.below hb (Nat.le_refl _))
  replace hB := hB.trans (hb.mono hB.size)
  clear hb
  rw [show decide (P1 = Q1) = false from by decide]
  go_wp2_with fail
  refine ⟨fun _ => hE, ?_⟩
  obtain ⟨d0, d1, d2, d3, d4, d5⟩ := bx6.six
  refine wpAny_go 486969851652145152 1125899906842623 [50, 51, 52, 53] 18014398509481983 7 (by kernel_rfl) (by kernel_rfl) (fun _ _ _ _ _ h => h) (by kernel_rfl) (by rfl) (by rfl) (by kernel_rfl) ?_
  simp only [List.map_cons, List.map_nil, List.getD_cons_succ, List.getD_cons_zero]
  go_wp2_with fail
  change wpAnyM _ _ _ _ _ _ _ _ _ _
  clear d0 d1 d2 d3 d4 d5
  obtain ⟨d0, d1, d2, d3, d4, d5⟩ := bx6.six
  refine wpAnyM_rebase hE _ _ _ _ ?_
  clear hE
  have hE := Ext.refl w12
  refine wpAny_reads 486969851652145152 18014398509481983 [56] 90071992547409919 6 (by kernel_rfl) (by kernel_rfl) (fun _ _ _ _ _ h => h) (by kernel_rfl) (by rfl) (by rfl) (by kernel_rfl) ?_
  simp only [List.map_cons, List.map_nil, List.getD_cons_succ, List.getD_cons_zero]
  go_wp2_with fail
  change _ → wpAnyM _ _ _ _ _ _ _ _ _ _; intro _
  clear d0 d1 d2 d3 d4 d5
  refine wpAny_oneM 54 108086391056891903 (by kernel_rfl) (by kernel_rfl) (of_decide_eq_true (by kernel_rfl)) (by rfl) ?_
  simp only [List.getD_cons_succ, List.getD_cons_zero]
  go_wp2_with fail
  refine (Own_any _ Q1 _ hq ⟨by decide, by decide, by decide, by decide, by decide⟩).mono ?_
  rintro e w13 ⟨⟨v6, rfl, hz⟩, hb⟩
  replace bx0 := bx0.next hb
  replace bx6 := bx6.next hb
  replace hp := hp.next hb
  replace hq := hq.next hb
  replace hx := hx.next hb
  replace bx7 := bx7.next hb
  replace hE := hE.trans (Ext.below hb (Nat.le_refl _))
  replace hB := hB.trans (hb.mono hB.size)
  clear hb
  go_wp2_with fail
  refine ⟨fun _ => hE, ?_⟩
  refine wpAny_oneM 55 144115188075855871 (by kernel_rfl) (by kernel_rfl) (of_decide_eq_true (by kernel_rfl)) (by rfl) ?_
  simp only [List.getD_cons_succ, List.getD_cons_zero]
  go_wp2_with fail
  refine (ref_any _ Q1 _ hz).mono ?_
  rintro e w14 ⟨rfl, hb⟩
  replace bx0 := bx0.next hb
  replace bx6 := bx6.next hb
  replace hp := hp.next hb
  replace hq := hq.next hb
  replace hx := hx.next hb
  replace bx7 := bx7.next hb
  replace hz := hz.next hb
  replace hE := hE.trans (Ext.below hb (Nat.le_refl _))
  replace hB := hB.trans (hb.mono hB.size)
  clear hb
  go_wp2_with fail
  refine ⟨fun _ => hE, ?_⟩
  refine wpAny_oneM 57 288230376151711743 (by kernel_rfl) (by kernel_rfl) (of_decide_eq_true (by kernel_rfl)) (by rfl) ?_
  simp only [List.getD_cons_succ, List.getD_cons_zero]
  go_wp2_with fail
  refine (ref_any _ Q1 _ hq).mono ?_
  rintro e w15 ⟨rfl, hb⟩
  replace bx0 := bx0.next hb
  replace bx6 := bx6.next hb
  replace hp := hp.next hb
  replace hq := hq.next hb
  replace hx := hx.next hb
  replace bx7 := bx7.next hb
  replace hz := hz.next hb
  replace hE := hE.trans (Ext.below hb (Nat.le_refl _))
  replace hB := hB.trans (hb.mono hB.size)
  clear hb
  go_wp2_with fail
  refine ⟨fun _ => hE, ?_⟩
  refine wpAny_oneM 58 576460752303423487 (by kernel_rfl) (by kernel_rfl) (of_decide_eq_true (by kernel_rfl)) (by rfl) ?_
  simp only [List.getD_cons_succ, List.getD_cons_zero]
  go_wp2_with fail
  refine (rsame_any _ _ Q1 Q1 _ hz.zero_ hq).mono ?_
  rintro e w16 ⟨rfl, hb⟩
  replace bx0 := bx0.next hb
  replace bx6 := bx6.next hb
  replace hp := hp.next hb
  replace hq := hq.next hb
  replace hx := hx.next hb
  replace bx7 := bx7.next hb
  replace hz := hz.next hb
  replace hE := hE.trans (Ext.below hb (Nat.le_refl _))
  replace hB := hB.trans (hb.mono hB.size)
  clear hb
  rw [show decide (Q1 = Q1) = true from rfl]
  go_wp2_with fail
  refine ⟨fun _ => hE, ?_⟩
  refine wpAny_go 486969851652145152 576460752303423487 [59, 60] 2305843009213693951 0 (by kernel_rfl) (by kernel_rfl) (fun _ _ _ _ _ h => h) (by kernel_rfl) (by rfl) (by rfl) (by kernel_rfl) ?_
  simp only [List.map_cons, List.map_nil, List.getD_cons_succ, List.getD_cons_zero]
  go_wp2_with fail
  change wpAnyM _ _ _ _ _ _ _ _ _ _
  refine wpAny_endM (by kernel_rfl) (by kernel_rfl) ?_
  go_wp2_with fail
  go_ret
  exact ⟨rfl, hB⟩
end Go.Proofs.Ytdfgnmdofjhnkaa
