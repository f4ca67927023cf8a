/- Lemmas, walks and contracts that the statements of this seat are proved by. -/
import Derived.Test.YtdfgnmdofjhnkaaG14
import Derived.Test.YtdfgnmdofjhnkaaG7
import Derived.Test.YtdfgnmdofjhnkaaG1
import Derived.Test.YtdfgnmdofjhnkaaG13
/- The law's Cut of a frame. -/
namespace Go.Proofs.Ytdfgnmdofjhnkaa
open Go.RowKit

/-- The law's Cut. -/
def Fr.cut (f : Fr) : Fr := ⟨f.kind, f.epoch, f.seq, f.letter, (f.pieces.take 7).map Pc.cut, f.init, f.num, f.count, f.path.take 8⟩
/-- What is left by the first part of Cut: a new frame without pieces, whose path is a row of its own. -/
def CutPost (W : World) (k e s t i n c : Int) (cp : List Int) (q : Value) (wx : World) : Prop :=
  ∃ g A y, q = .pointer (some ⟨g, 0, none⟩) ∧ W.heap.size ≤ g ∧ Box wx g #[.int .i64 k, .int .i64 e, .int .i64 s, .int .i64 t, .slice none 0 0, .int .i64 i, .int .i64 n, .int .i64 c, .slice A cp.length y] 58 ∧ SliceOn Rep.int false wx (fun b => W.heap.size ≤ b ∧ b < wx.heap.size ∧ b ≠ g) (.slice A cp.length y) cp ∧ Below W.heap.size W wx
theorem apart_box {b b' : Option Nat} {g : Nat} {w : World} (ha : Apart b (some g)) (hg : g < w.heap.size) (h4 : b' = b ∨ ∃ k, b' = some k ∧ w.heap.size ≤ k) : Apart b' (some g) := by
  intro k h1 h2
  rcases h4 with rfl | ⟨n, rfl, hn⟩
  · exact ha k h1 h2
  · cases h1; cases h2; omega
theorem Row.on {α : Type} {r : Rep α} {e : TypeId} {B : Nat} {w : World} {b : Option Nat} {v : Value} {xs : List α} (h : Row r e B w b v xs) {S : Nat → Prop} (hS : ∀ k, b = some k → S k) : SliceOn r false w S v xs := by
  obtain ⟨cells, h1, h2, h3⟩ := h
  exact (SliceOn.of_own (base := B) (e := e) h1 (Rep.all_widen (fun _ h => h.elim) h2) (fun g hg => hS g (h3.symm.trans hg))).soft
/-- All but block g is as it was. -/
def CutKeep (g : Nat) (W w : World) : Prop := W.heap.size ≤ w.heap.size ∧ ∀ q, q ≠ g → q < W.heap.size → w.heap[q]? = W.heap[q]?
theorem CutKeep.refl (g : Nat) (W : World) : CutKeep g W W := ⟨Nat.le_refl _, fun _ _ _ => rfl⟩
theorem CutPost.late {W w : World} {k e s t i n c : Int} {cp : List Int} {b : Option Nat} {A : Option Addr} {y B : Nat} (hrow : Row Rep.int 3 B w b (.slice A cp.length y) cp) (hB : W.heap.size ≤ B) (hV : Below W.heap.size W w) :
    CutPost W k e s t i n c cp (.pointer (some ⟨w.heap.size, 0, none⟩)) (w.alloc (.cells #[.int .i64 k, .int .i64 e, .int .i64 s, .int .i64 t, .slice none 0 0, .int .i64 i, .int .i64 n, .int .i64 c, .slice A cp.length y] 58)) :=
  ⟨_, A, y, rfl, hV.size, Box.new _ _ _, (hrow.next ((Below.refl _ _).alloc (Nat.le_refl _) _)).on (fun q hq => ⟨Nat.le_trans hB (hrow.lt hq).1, by have := (hrow.lt hq).2; simp; omega, by have := (hrow.lt hq).2; omega⟩), hV.alloc hV.size _⟩
theorem CutPost.early {W w : World} {k e s t i n c : Int} {cp : List Int} {b : Option Nat} {A : Option Addr} {y B g : Nat} {x0 x1 x2 x3 x4 x5 x6 x7 x8 : Value} (hrow : Row Rep.int 3 B w b (.slice A cp.length y) cp) (hB : W.heap.size ≤ B) (hV : Below W.heap.size W w)
    (hg : Box w g #[x0, x1, x2, x3, x4, x5, x6, x7, x8] 58) (hlo : W.heap.size ≤ g) (ha : Apart b (some g)) :
    CutPost W k e s t i n c cp (.pointer (some ⟨g, 0, none⟩)) (wnine w g (.int .i64 k) (.int .i64 e) (.int .i64 s) (.int .i64 t) (.slice none 0 0) (.int .i64 i) (.int .i64 n) (.int .i64 c) (.slice A cp.length y)) := by
  refine ⟨g, A, y, rfl, hlo, nine_box hg, ?_, nine_below hV hlo⟩
  exact (hrow.keep fun q hq => nine_far fun he => ha q hq (by rw [he])).on fun q hq => ⟨Nat.le_trans hB (hrow.lt hq).1, by rw [nine_size]; exact (hrow.lt hq).2, fun he => ha q hq (by rw [he])⟩

set_option maxRecDepth 100000 in
set_option maxHeartbeats 8000000 in
theorem frcut_any (v : Value) (f : Fr) (w : World) (h : FrIs false w 0 w.heap.size v f) : Calls Try.prog 30 #[v] w
    fun z w' => (∃ u, z = .returned u ∧ FrIs false w' w.heap.size w'.heap.size u (Fr.cut f)) ∧ Below w.heap.size w w' := by
  obtain ⟨k, e, s, t, ps, i, n, c, p⟩ := f
  obtain ⟨A, B, x, y, rfl, h1, h2⟩ := h
  dsimp only at h1 h2 ⊢
  obtain ⟨_, _, he, hql, hqm, _⟩ := id h2
  cases he
  unfold maxLen at hqm
  obtain ⟨cp, hcp⟩ : ∃ q, p.take 8 = q := ⟨_, rfl⟩
  obtain ⟨FC, hFC⟩ : ∃ q, Fr.cut ⟨k, e, s, t, ps, i, n, c, p⟩ = q := ⟨_, rfl⟩
  have hFC2 : FC = ⟨k, e, s, t, (ps.take 7).map Pc.cut, i, n, c, cp⟩ := by rw [← hFC, ← hcp]; rfl
  rw [hFC]
  have HFC := Lib.hid hFC2; clear hFC hFC2
  have hcl : (min (p.length : Int) 8).toNat = cp.length := by rw [← hcp]; simp; omega
  have hm0 : (0 : Int) ≤ min (p.length : Int) 8 := by omega
  have hm1 : min (p.length : Int) 8 ≤ (y : Int) := by omega
  have hcpl : cp.length ≤ 8 := by rw [← hcp]; simp; omega
  have hq0 : SliceIs Rep.int false w 0 w.heap.size (.slice B cp.length y) cp := by rw [← hcp]; exact ⟨_, _, rfl, by simp; omega, by unfold maxLen; omega, SliceAt.take 8 h2.arr⟩
  have HQ0 := Lib.hid hq0; clear hq0 hcp
  go_enter Try.func30, Try.ntmps30
  go_upto_region 1 with fail
  refine name_wp fun W0 hW0 => ?_
  have bx : Box W0 w.heap.size #[.int .i64 k, .int .i64 e, .int .i64 s, .int .i64 t, .slice A ps.length x, .int .i64 i, .int .i64 n, .int .i64 c, .slice B p.length y] 58 := hW0 ▸ (Box.at' _ _ rfl).alloc _
  have b2 : Box W0 (w.heap.size + 1) #[.int .i64 0, .int .i64 0, .int .i64 0, .int .i64 0, .slice none 0 0, .int .i64 0, .int .i64 0, .int .i64 0, .slice none 0 0] 58 := hW0 ▸ Box.at' _ _ (by simp)
  have hB : Below w.heap.size w W0 := hW0 ▸ ((Below.refl _ _).alloc (Nat.le_refl _) _).alloc (by simp) _
  clear hW0
  go_cut [3] (fun q wx => CutPost W0 k e s t i n c cp q wx)
  case first =>
    have hQ := HQ0.out.below hB (Nat.le_refl _)
    replace hQ := hQ.below ((Below.refl w.heap.size W0).drew) (Nat.le_refl _)
    have hV := (Below.refl W0.heap.size W0).drew
    have hE0 := hB.size
    replace bx := bx.next ((Below.refl _ _).drew)
    refine region_go 1048576 (by kernel_rfl) ?_
    obtain ⟨d0, d1, d2, d3, d4, d5, d6, d7, d8⟩ := nine_cells bx
    refine wpAny_go 1048576 0 [13, 14, 15, 16, 17] 253952 19 (by kernel_rfl) (by kernel_rfl) (fun _ _ _ _ _ h => h) (by kernel_rfl) (by rfl) (by rfl) (by kernel_rfl) ?_
    simp only [List.map_cons, List.map_nil, List.getD_cons_succ, List.getD_cons_zero]
    go_wp2_with fail
    change wpAnyM _ _ _ _ _ _ _ _ _ _
    refine wpAny_reads 1048576 253952 [0, 1, 2, 3, 4, 5, 6, 7, 8, 9, 10, 11] 258047 7 (by kernel_rfl) (by kernel_rfl) (fun _ _ _ _ _ h => h) (by kernel_rfl) (by rfl) (by rfl) (by kernel_rfl) ?_
    simp only [List.map_cons, List.map_nil, List.getD_cons_succ, List.getD_cons_zero]
    go_wp2_with fail
    change _ → wpAnyM _ _ _ _ _ _ _ _ _ _; intro _
    clear d0 d1 d2 d3 d4 d5 d6 d7 d8
    refine wpAny_takeM 18 rfl (by kernel_rfl) (by rfl : 258047 ||| 2 ^ 18 = 520191) (by kernel_rfl) (by kernel_rfl) (by kernel_rfl) (by kernel_rfl) (fun _ _ _ h => h) (.inl ⟨by rfl, fun w => by (go_simp; try with_reducible rfl)⟩) ?_
    refine wpAny_go 1048576 520191 [19] 1044479 5 (by kernel_rfl) (by kernel_rfl) (fun _ _ _ _ _ h => h) (by kernel_rfl) (by rfl) (by rfl) (by kernel_rfl) ?_
    simp only [List.map_cons, List.map_nil, List.getD_cons_succ, List.getD_cons_zero]
    go_wp2_with fail
    change wpAnyM _ _ _ _ _ _ _ _ _ _
    refine nameAny fun y0 hy => ?_
    have s0 : W0.heap.size ≤ y0.heap.size := by rw [← hy]; simp
    rw [hy] at hV hQ
    have hD : Below W0.heap.size W0.drew y0 := by rw [hy]; exact Below.refl _ _
    clear hy bx hcl hm0 hm1
    refine wpAny_twoM 12 22 1048575 5238783 (by kernel_rfl) (by kernel_rfl) (of_decide_eq_true (by kernel_rfl)) (of_decide_eq_true (by kernel_rfl)) (by rfl) (by rfl) ?_ ?_
    ·
      simp only [List.getD_cons_succ, List.getD_cons_zero]
      go_wp2_with fail
      refine ⟨fun h => absurd h (by decide), nameAny fun y1 hw => ?_⟩
      have row : Row Rep.int 3 y0.heap.size y1 (some y0.heap.size) (.slice (some ⟨y0.heap.size, 0, none⟩) 0 0) [] := hw ▸ Row.empty Rep.int 3 y0
      have hh : Below y0.heap.size y0 y1 := hw ▸ ((Below.refl _ _).alloc (Nat.le_refl _) _)
      have s1 : y0.heap.size < y1.heap.size := hw ▸ (by simp)
      clear hw
      replace hD := hD.trans (hh.mono hV.size)
      replace hV := hV.trans (hh.mono hV.size)
      replace hQ := hQ.below (hh.mono (by omega)) (Nat.le_refl _)
      clear hh
      refine wpAny_twoM 20 22 2097151 5242879 (by kernel_rfl) (by kernel_rfl) (of_decide_eq_true (by kernel_rfl)) (of_decide_eq_true (by kernel_rfl)) (by rfl) (by rfl) ?_ ?_
      ·
        simp only [List.getD_cons_succ, List.getD_cons_zero]
        refine wpList_rowS (r := Rep.int) flat_int rfl (.tmp 17) (.tmp 24) 22 rfl y0.heap.size 3 Try.infoInt Try.underlying22 rfl (by omega) _ _ rfl row (by omega) rfl hQ (by simp only [List.length_nil]; omega) ?_
        intro v5 y2 b5 row5 hgr hb5 ha5
        clear row
        have row := row5; clear row5
        rw [List.nil_append] at row
        obtain ⟨A5, y5, rfl, _, _⟩ := row.form
        have s2 := hb5.size
        replace hV := hV.trans (hb5.mono (by omega))
        replace hD := hD.trans (hb5.mono (by omega))
        have hE := Ext.below hD (by simp)
        clear hb5 hgr ha5
        go_wp2_with fail
        refine ⟨fun _ => hE, ?_⟩
        refine wpAny_go 1048576 2097151 [21, 22, 23] 16777215 0 (by kernel_rfl) (by kernel_rfl) (fun _ _ _ _ _ h => h) (by kernel_rfl) (by rfl) (by rfl) (by kernel_rfl) ?_
        simp only [List.map_cons, List.map_nil, List.getD_cons_succ, List.getD_cons_zero]
        go_wp2_with fail
        change wpAnyM _ _ _ _ _ _ _ _ _ _
        refine wpAny_endM (by kernel_rfl) (by kernel_rfl) ?_
        go_wp2_with fail
        go_meet
        exact CutPost.late row (by omega) hV
      ·
        simp only [List.getD_cons_succ, List.getD_cons_zero]
        go_wp2_with fail
        refine ⟨fun h => absurd h (by decide), nameAny fun y2 hw => ?_⟩
        have hg : Box y2 y1.heap.size #[.int .i64 0, .int .i64 0, .int .i64 0, .int .i64 0, .slice none 0 0, .int .i64 0, .int .i64 0, .int .i64 0, .slice none 0 0] 58 := hw ▸ Box.new _ _ _
        have hh : Below y1.heap.size y1 y2 := hw ▸ ((Below.refl _ _).alloc (Nat.le_refl _) _)
        have s2 : y1.heap.size < y2.heap.size := hw ▸ (by simp)
        clear hw
        replace row := row.next hh
        replace hD := hD.trans (hh.mono hV.size)
        replace hV := hV.trans (hh.mono hV.size)
        replace hQ := hQ.below (hh.mono (by omega)) (Nat.le_refl _)
        clear hh
        have hap : Apart (some y0.heap.size) (some y1.heap.size) := fun q h1 h2 => by cases h1; injection h2; omega
        have hap0 := hap
        refine wpAny_oneM 20 6291455 (by kernel_rfl) (by kernel_rfl) (of_decide_eq_true (by kernel_rfl)) (by rfl) ?_
        simp only [List.getD_cons_succ, List.getD_cons_zero]
        refine wpList_rowS (r := Rep.int) flat_int rfl (.tmp 17) (.tmp 24) 22 rfl y0.heap.size 3 Try.infoInt Try.underlying22 rfl (by omega) _ _ rfl row (by omega) rfl hQ (by simp only [List.length_nil]; omega) ?_
        intro v5 y3 b5 row5 hgr hb5 ha5
        clear row
        have row := row5; clear row5
        rw [List.nil_append] at row
        obtain ⟨A5, y5, rfl, _, _⟩ := row.form
        have s3 := hb5.size
        replace hap := apart_box hap hg.lt ha5
        have hg5 : Box y3 y1.heap.size #[.int .i64 0, .int .i64 0, .int .i64 0, .int .i64 0, .slice none 0 0, .int .i64 0, .int .i64 0, .int .i64 0, .slice none 0 0] 58 := (hgr.block _ hg.lt (fun he => hap0 _ he.symm rfl)).trans hg
        clear hg
        have hg := hg5; clear hg5
        replace hV := hV.trans (hb5.mono (by omega))
        replace hD := hD.trans (hb5.mono (by omega))
        have hE := Ext.below hD (by simp)
        clear hb5 hgr ha5
        go_wp2_with fail
        refine ⟨fun _ => hE, ?_⟩
        obtain ⟨g0, g1, g2, g3, g4, g5, g6, g7, g8⟩ := nine_cells hg
        obtain ⟨f0, f1, f2, f3, f4, f5, f6, f7, f8⟩ := nine_free hg
        refine wpAny_go 1048576 6291455 [21, 23] 16777215 0 (by kernel_rfl) (by kernel_rfl) (fun _ _ _ _ _ h => h) (by kernel_rfl) (by rfl) (by rfl) (by kernel_rfl) ?_
        simp only [List.map_cons, List.map_nil, List.getD_cons_succ, List.getD_cons_zero]
        go_wp2_with fail
        change wpAnyM _ _ _ _ _ _ _ _ _ _
        clear g0 g1 g2 g3 g4 g5 g6 g7 g8 f0 f1 f2 f3 f4 f5 f6 f7 f8
        refine wpAny_endM (by kernel_rfl) (by kernel_rfl) ?_
        go_wp2_with fail
        go_meet
        exact CutPost.early row (by omega) hV hg (by omega) hap
    ·
      simp only [List.getD_cons_succ, List.getD_cons_zero]
      go_wp2_with fail
      refine ⟨fun h => absurd h (by decide), nameAny fun y1 hw => ?_⟩
      have hg : Box y1 y0.heap.size #[.int .i64 0, .int .i64 0, .int .i64 0, .int .i64 0, .slice none 0 0, .int .i64 0, .int .i64 0, .int .i64 0, .slice none 0 0] 58 := hw ▸ Box.new _ _ _
      have hh : Below y0.heap.size y0 y1 := hw ▸ ((Below.refl _ _).alloc (Nat.le_refl _) _)
      have s1 : y0.heap.size < y1.heap.size := hw ▸ (by simp)
      clear hw
      replace hD := hD.trans (hh.mono hV.size)
      replace hV := hV.trans (hh.mono hV.size)
      replace hQ := hQ.below (hh.mono (by omega)) (Nat.le_refl _)
      clear hh
      refine wpAny_oneM 12 5242879 (by kernel_rfl) (by kernel_rfl) (of_decide_eq_true (by kernel_rfl)) (by rfl) ?_
      simp only [List.getD_cons_succ, List.getD_cons_zero]
      go_wp2_with fail
      refine ⟨fun h => absurd h (by decide), nameAny fun y2 hw => ?_⟩
      have row : Row Rep.int 3 y1.heap.size y2 (some y1.heap.size) (.slice (some ⟨y1.heap.size, 0, none⟩) 0 0) [] := hw ▸ Row.empty Rep.int 3 y1
      have hh : Below y1.heap.size y1 y2 := hw ▸ ((Below.refl _ _).alloc (Nat.le_refl _) _)
      have s2 : y1.heap.size < y2.heap.size := hw ▸ (by simp)
      clear hw
      replace hg := hg.next hh
      replace hD := hD.trans (hh.mono hV.size)
      replace hV := hV.trans (hh.mono hV.size)
      replace hQ := hQ.below (hh.mono (by omega)) (Nat.le_refl _)
      clear hh
      have hap : Apart (some y1.heap.size) (some y0.heap.size) := fun q h1 h2 => by cases h1; injection h2; omega
      have hap0 := hap
      refine wpAny_oneM 20 6291455 (by kernel_rfl) (by kernel_rfl) (of_decide_eq_true (by kernel_rfl)) (by rfl) ?_
      simp only [List.getD_cons_succ, List.getD_cons_zero]
      refine wpList_rowS (r := Rep.int) flat_int rfl (.tmp 17) (.tmp 24) 22 rfl y1.heap.size 3 Try.infoInt Try.underlying22 rfl (by omega) _ _ rfl row (by omega) rfl hQ (by simp only [List.length_nil]; omega) ?_
      intro v5 y3 b5 row5 hgr hb5 ha5
      clear row
      have row := row5; clear row5
      rw [List.nil_append] at row
      obtain ⟨A5, y5, rfl, _, _⟩ := row.form
      have s3 := hb5.size
      replace hap := apart_box hap hg.lt ha5
      have hg5 : Box y3 y0.heap.size #[.int .i64 0, .int .i64 0, .int .i64 0, .int .i64 0, .slice none 0 0, .int .i64 0, .int .i64 0, .int .i64 0, .slice none 0 0] 58 := (hgr.block _ hg.lt (fun he => hap0 _ he.symm rfl)).trans hg
      clear hg
      have hg := hg5; clear hg5
      replace hV := hV.trans (hb5.mono (by omega))
      replace hD := hD.trans (hb5.mono (by omega))
      have hE := Ext.below hD (by simp)
      clear hb5 hgr ha5
      go_wp2_with fail
      refine ⟨fun _ => hE, ?_⟩
      obtain ⟨g0, g1, g2, g3, g4, g5, g6, g7, g8⟩ := nine_cells hg
      obtain ⟨f0, f1, f2, f3, f4, f5, f6, f7, f8⟩ := nine_free hg
      refine wpAny_go 1048576 6291455 [21, 23] 16777215 0 (by kernel_rfl) (by kernel_rfl) (fun _ _ _ _ _ h => h) (by kernel_rfl) (by rfl) (by rfl) (by kernel_rfl) ?_
      simp only [List.map_cons, List.map_nil, List.getD_cons_succ, List.getD_cons_zero]
      go_wp2_with fail
      change wpAnyM _ _ _ _ _ _ _ _ _ _
      clear g0 g1 g2 g3 g4 g5 g6 g7 g8 f0 f1 f2 f3 f4 f5 f6 f7 f8
      refine wpAny_endM (by kernel_rfl) (by kernel_rfl) ?_
      go_wp2_with fail
      go_meet
      exact CutPost.early row (by omega) hV hg (by omega) hap
  case rest =>
    obtain ⟨g, A3, y3, rfl, hg1, bg, hpath, hV⟩ := hcut
    obtain ⟨W1, rfl⟩ : ∃ x : World, x = wc := ⟨_, rfl⟩
    have HBX := Lib.hid bx; have HB2 := Lib.hid b2; have HP1 := Lib.hid h1; have HPATH := Lib.hid hpath; have HBB := Lib.hid hB; have hE2 : w.heap.size + 1 < W0.heap.size := b2.lt
    have HE2 := Lib.hid hE2
    have hgl := bg.lt
    have HGL := Lib.hid hgl; have HG1 := Lib.hid hg1
    obtain ⟨_, _, he, hpl, hpm, _⟩ := id h1
    cases he
    unfold maxLen at hpm
    clear bx b2 h1 h2 hB hpath hE2 hcl hm0 hm1 hgl
    go_wp2_with fail
    go_loopg [4] ps.length (fun kk iv wr => ∃ (j : Nat) (u : Value), iv = .int .i64 (j : Int) ∧ j ≤ ps.length ∧ j ≤ 7 ∧ kk = ps.length - j ∧ Acc Rep.piece 26 W1.heap.size wr u ((ps.take j).map Pc.cut) ∧ Box wr g #[.int .i64 k, .int .i64 e, .int .i64 s, .int .i64 t, u, .int .i64 i, .int .i64 n, .int .i64 c, .slice A3 cp.length y3] 58 ∧ Below W0.heap.size W0 wr ∧ CutKeep g W1 wr)
    case atStart => exact ⟨0, _, rfl, by omega, by omega, by omega, Acc.nil _ _ _ _, bg, hV, CutKeep.refl _ _⟩
    case round =>
      clear bg hV
      obtain ⟨j, u, rfl, hj, hj7, hk, hacc, bg, hV, hkp⟩ := hrel
      have HK := Lib.hid hk; clear hk
      obtain ⟨UA, uc, rfl, hul, hum, _⟩ := id hacc.slice
      have hlj : ((ps.take j).map Pc.cut).length = j := by simp; omega
      rw [hlj] at hacc bg hul
      have HLJ := Lib.hid hlj; clear hlj
      have hd := hV.drew
      have bxd : Box wr.drew w.heap.size #[.int .i64 k, .int .i64 e, .int .i64 s, .int .i64 t, .slice A ps.length x, .int .i64 i, .int .i64 n, .int .i64 c, .slice B p.length y] 58 := (hd.block _ HBX.out.lt).trans HBX.out
      have hnul : ((ps.take j).map Pc.cut).length ≤ 1000000 := by rw [List.length_map, List.length_take]; omega
      by_cases hlt : j < ps.length
      ·
        by_cases h7 : (j : Int) < 7
        ·
          obtain ⟨x, hx⟩ := Pc.get_at hlt
          have hBw := HBB.out.trans (hd.mono HBB.out.size)
          obtain ⟨gp, o, a3, a4, a5, he, _, hgp, c0, c1, c2, c3, c4, c5, hp⟩ := (HP1.out.below hBw (Nat.le_refl _)).arr.piece hx
          subst he
          have htk : (ps.take (j + 1)).map Pc.cut = (ps.take j).map Pc.cut ++ [Pc.cut x] := by rw [Pc.take_next hx, List.map_append]; rfl
          have HT := Lib.hid htk; clear htk hx
          obtain ⟨_, _, _, he, ⟨Q3, q3, rfl, _⟩, ⟨Q4, q4, rfl, _⟩, ⟨Q5, q5, rfl, _⟩⟩ := id hp
          cases he
          have hpw := hp.widen (Nat.le_refl 0) hBw.size
          have HPW := Lib.hid hpw; clear hp hpw
          have hbx0 := (hV.block _ HBX.out.lt).trans HBX.out
          obtain ⟨k0, k1, k2, k3, k4, k5, k6, k7, k8⟩ := nine_cells hbx0
          go_upto_region 5 with fail
          clear k0 k1 k2 k3 k4 k5 k6 k7 k8
          have bgd := bg.next ((Below.refl _ _).drew)
          have haccd := hacc.below ((Below.refl wr.heap.size wr).drew)
          have hE := Ext.refl wr.drew
          refine region_go 128 (by kernel_rfl) ?_
          obtain ⟨d0, d1, d2, d3, d4, d5, d6, d7, d8⟩ := nine_cells bxd
          refine wpAny_go 128 0 [2, 3, 4, 5, 6] 124 7 (by kernel_rfl) (by kernel_rfl) (fun _ _ _ _ _ h => h) (by kernel_rfl) (by rfl) (by rfl) (by kernel_rfl) ?_
          simp only [List.map_cons, List.map_nil, List.getD_cons_succ, List.getD_cons_zero]
          go_wp2_with fail
          change wpAnyM _ _ _ _ _ _ _ _ _ _
          clear d0 d1 d2 d3 d4 d5 d6 d7 d8
          clear c0 c1 c2 c3 c4 c5
          obtain ⟨d0, d1, d2, d3, d4, d5, d6, d7, d8⟩ := nine_cells bgd
          refine wpAny_reads 128 124 [0, 1] 127 5 (by kernel_rfl) (by kernel_rfl) (fun _ _ _ _ _ h => h) (by kernel_rfl) (by rfl) (by rfl) (by kernel_rfl) ?_
          simp only [List.map_cons, List.map_nil, List.getD_cons_succ, List.getD_cons_zero]
          go_wp2_with fail
          change _ → wpAnyM _ _ _ _ _ _ _ _ _ _; intro _
          clear d0 d1 d2 d3 d4 d5 d6 d7 d8
          refine wpAny_oneM 7 255 (by kernel_rfl) (by kernel_rfl) (of_decide_eq_true (by kernel_rfl)) (by rfl) ?_
          simp only [List.getD_cons_succ, List.getD_cons_zero]
          go_wp2_with fail
          refine (cut6_any _ x _ HPW.out).mono ?_
          rintro z w2 ⟨⟨v2, rfl, hu2⟩, hh⟩
          replace bgd := bgd.next hh
          replace hE := hE.trans (Ext.below hh (Nat.le_refl _))
          obtain ⟨cs, rfl, hcs⟩ := hu2.cells
          have hcs0 := hcs
          obtain ⟨r3, r4, r5, rfl, ⟨R3, t3, rfl, _⟩, ⟨R4, t4, rfl, _⟩, ⟨R5, t5, rfl, _⟩⟩ := hcs0
          have HCS := Lib.hid hcs; clear hcs hu2
          go_wp2_with fail
          refine ⟨fun _ => hE, ?_⟩
          refine wpAny_go 128 255 [8] 511 3 (by kernel_rfl) (by kernel_rfl) (fun _ _ _ _ _ h => h) (by kernel_rfl) (by rfl) (by rfl) (by kernel_rfl) ?_
          simp only [List.map_cons, List.map_nil, List.getD_cons_succ, List.getD_cons_zero]
          go_wp2_with fail
          change wpAnyM _ _ _ _ _ _ _ _ _ _
          refine wpAny_oneM 9 1023 (by kernel_rfl) (by kernel_rfl) (of_decide_eq_true (by kernel_rfl)) (by rfl) ?_
          simp only [List.getD_cons_succ, List.getD_cons_zero]
          refine wpList_accB (r := Rep.piece) (w0 := wr.drew) (y := Pc.cut x) rfl (.tmp 39) (.tmp 46) 55 rfl W1.heap.size 26 Try.infoPiece Try.underlying55 rfl (by omega) (.slice UA j uc) rfl haccd (fun b h1 h2 => hh.block b h2) hh.size hkp.1 1 _ _ rfl rfl HCS.out hnul ?_
          intro v9 w9 hacc9 hgr9 hb9
          obtain ⟨NA, nc, rfl, _, _, _⟩ := id hacc9.slice
          have hl1 : ((ps.take j).map Pc.cut ++ [Pc.cut x]).length = j + 1 := by rw [List.length_append, HLJ.out]; rfl
          rw [hl1] at hacc9 ⊢
          clear hl1
          have hg9 : Box w9 g _ _ := (hb9.block g HGL.out).trans bgd
          have hV2 : Below W0.heap.size W0 w2 := hd.trans (hh.mono hd.size)
          have hV9 : Below W0.heap.size W0 w9 := hV2.trans (hb9.mono (Nat.le_trans HG1.out (Nat.le_of_lt HGL.out)))
          have hk9 : CutKeep g W1 w9 := ⟨Nat.le_trans hkp.1 (Nat.le_trans hh.size hb9.size), fun q h1 h2 => (hb9.block q h2).trans ((hh.block q (Nat.lt_of_lt_of_le h2 hkp.1)).trans (hkp.2 q h1 h2))⟩
          clear hacc haccd bg bgd hb9 hgr9 hh HCS HPW hV2 hkp hd bxd hE
          go_wp2_with fail
          refine ⟨fun h => absurd h (by decide), ?_⟩
          obtain ⟨d0, d1, d2, d3, d4, d5, d6, d7, d8⟩ := nine_cells hg9
          obtain ⟨f0, f1, f2, f3, f4, f5, f6, f7, f8⟩ := nine_free hg9
          refine wpAny_go 128 1023 [10, 11] 4095 0 (by kernel_rfl) (by kernel_rfl) (fun _ _ _ _ _ h => h) (by kernel_rfl) (by rfl) (by rfl) (by kernel_rfl) ?_
          simp only [List.map_cons, List.map_nil, List.getD_cons_succ, List.getD_cons_zero]
          go_wp2_with fail
          change wpAnyM _ _ _ _ _ _ _ _ _ _
          clear d0 d1 d2 d3 d4 d5 d6 d7 d8 f0 f1 f2 f3 f4 f5 f6 f7 f8
          refine nameAny fun V hV0 => ?_
          have bgV : Box V g #[.int .i64 k, .int .i64 e, .int .i64 s, .int .i64 t, (.slice NA (j + 1) nc), .int .i64 i, .int .i64 n, .int .i64 c, .slice A3 cp.length y3] 58 := by rw [← hV0]; exact blk_set hg9 4 _
          have hVV : Below W0.heap.size W0 V := by rw [← hV0]; exact hV9.setCell HG1.out _
          have hkV : CutKeep g W1 V := by rw [← hV0]; exact ⟨by simpa [World.setCell] using hk9.1, fun q h1 h2 => (heap_setCell_other _ _ _ _ h1).trans (hk9.2 q h1 h2)⟩
          have haV : Acc Rep.piece 26 W1.heap.size V (.slice NA (j + 1) nc) ((ps.take j).map Pc.cut ++ [Pc.cut x]) := by rw [← hV0]; exact hacc9.move (fun q h1 _ => heap_setCell_other _ _ _ _ (Nat.ne_of_gt (Nat.lt_of_lt_of_le HGL.out h1))) (by simp [World.setCell])
          rw [← HT.out] at haV
          clear hV0 hg9 hV9 hk9 hacc9
          refine wpAny_endM (by kernel_rfl) (by kernel_rfl) ?_
          go_wp2_with fail
          go_roundg (ps.length - (j + 1))
          case rel => exact ⟨j + 1, _, by simp, by omega, by omega, rfl, haV, bgV, hVV, hkV⟩
          case measure => have := HK.out; omega
        ·
          have hpc : (ps.take j).map Pc.cut = (ps.take 7).map Pc.cut := by rw [show j = 7 by omega]
          rw [hpc] at hacc
          have b2r : Box wr (w.heap.size + 1) #[.int .i64 0, .int .i64 0, .int .i64 0, .int .i64 0, .slice none 0 0, .int .i64 0, .int .i64 0, .int .i64 0, .slice none 0 0] 58 := (hV.block _ HE2.out).trans HB2.out
          have hbx0 := (hV.block _ HBX.out.lt).trans HBX.out
          obtain ⟨k0, k1, k2, k3, k4, k5, k6, k7, k8⟩ := nine_cells hbx0
          obtain ⟨d0, d1, d2, d3, d4, d5, d6, d7, d8⟩ := nine_cells bg
          obtain ⟨g0, g1, g2, g3, g4, g5, g6, g7, g8⟩ := nine_cells b2r
          obtain ⟨f0, f1, f2, f3, f4, f5, f6, f7, f8⟩ := nine_free b2r
          have HA9 := Lib.hid hacc; have HV9 := Lib.hid hV; have HK9 := Lib.hid hkp; have HR9 := Lib.hid b2r; clear hacc hV hkp b2r hd bxd hpc
          go_wp2_with fail
          have r := nine_box (a0 := .int .i64 k) (a1 := .int .i64 e) (a2 := .int .i64 s) (a3 := .int .i64 t) (a4 := .slice UA j uc) (a5 := .int .i64 i) (a6 := .int .i64 n) (a7 := .int .i64 c) (a8 := .slice A3 cp.length y3) HR9.out
          have hfar := fun (q : Nat) (hq : q ≠ w.heap.size + 1) => nine_far (w := wr) (b := w.heap.size + 1) (a0 := .int .i64 k) (a1 := .int .i64 e) (a2 := .int .i64 s) (a3 := .int .i64 t) (a4 := .slice UA j uc) (a5 := .int .i64 i) (a6 := .int .i64 n) (a7 := .int .i64 c) (a8 := .slice A3 cp.length y3) hq
          have hz := nine_size (w := wr) (b := w.heap.size + 1) (a0 := .int .i64 k) (a1 := .int .i64 e) (a2 := .int .i64 s) (a3 := .int .i64 t) (a4 := .slice UA j uc) (a5 := .int .i64 i) (a6 := .int .i64 n) (a7 := .int .i64 c) (a8 := .slice A3 cp.length y3)
          have hbl := nine_below (b := w.heap.size + 1) (a0 := .int .i64 k) (a1 := .int .i64 e) (a2 := .int .i64 s) (a3 := .int .i64 t) (a4 := .slice UA j uc) (a5 := .int .i64 i) (a6 := .int .i64 n) (a7 := .int .i64 c) (a8 := .slice A3 cp.length y3) (HBB.out.trans (HV9.out.mono HBB.out.size)) (Nat.le_succ _)
          unfold wnine at r
          clear g0 g1 g2 g3 g4 g5 g6 g7 g8
          obtain ⟨g0, g1, g2, g3, g4, g5, g6, g7, g8⟩ := nine_cells r
          refine bodyPost_ret (v := .agg #[.int .i64 k, .int .i64 e, .int .i64 s, .int .i64 t, .slice UA j uc, .int .i64 i, .int .i64 n, .int .i64 c, .slice A3 cp.length y3]) (by simp [results, Try.results30, go_sem, g0, g1, g2, g3, g4, g5, g6, g7, g8]) rfl ⟨⟨_, rfl, ?_⟩, hbl⟩
          rw [HFC.out]
          have hw0 := HBB.out.size; have hw1 := HE2.out; have hw2 := HG1.out; have hw3 := HGL.out; have hw4 := HK9.out.1
          refine FrIs.of (f := ⟨k, e, s, t, (ps.take 7).map Pc.cut, i, n, c, cp⟩) ?_ ?_
          · exact (HA9.out.slice.soft.keep fun q hq1 _ => hfar q (by omega)).widen (by omega) (Nat.le_of_eq hz.symm)
          · exact SliceOn.is_ (((HPATH.out.keep fun q hq => HK9.out.2 q hq.2.2 hq.2.1).keep fun q hq => hfar q (by omega)).widen fun q hq => ⟨by omega, Nat.lt_of_lt_of_le (Nat.lt_of_lt_of_le hq.2.1 hw4) (Nat.le_of_eq hz.symm)⟩)
      ·
        have hpc : (ps.take j).map Pc.cut = (ps.take 7).map Pc.cut := by rw [List.take_of_length_le (show ps.length ≤ j by omega), List.take_of_length_le (show ps.length ≤ 7 by omega)]
        rw [hpc] at hacc
        have b2r : Box wr (w.heap.size + 1) #[.int .i64 0, .int .i64 0, .int .i64 0, .int .i64 0, .slice none 0 0, .int .i64 0, .int .i64 0, .int .i64 0, .slice none 0 0] 58 := (hV.block _ HE2.out).trans HB2.out
        have hbx0 := (hV.block _ HBX.out.lt).trans HBX.out
        obtain ⟨k0, k1, k2, k3, k4, k5, k6, k7, k8⟩ := nine_cells hbx0
        obtain ⟨d0, d1, d2, d3, d4, d5, d6, d7, d8⟩ := nine_cells bg
        obtain ⟨g0, g1, g2, g3, g4, g5, g6, g7, g8⟩ := nine_cells b2r
        obtain ⟨f0, f1, f2, f3, f4, f5, f6, f7, f8⟩ := nine_free b2r
        have HA9 := Lib.hid hacc; have HV9 := Lib.hid hV; have HK9 := Lib.hid hkp; have HR9 := Lib.hid b2r; clear hacc hV hkp b2r hd bxd hpc
        go_wp2_with fail
        have r := nine_box (a0 := .int .i64 k) (a1 := .int .i64 e) (a2 := .int .i64 s) (a3 := .int .i64 t) (a4 := .slice UA j uc) (a5 := .int .i64 i) (a6 := .int .i64 n) (a7 := .int .i64 c) (a8 := .slice A3 cp.length y3) HR9.out
        have hfar := fun (q : Nat) (hq : q ≠ w.heap.size + 1) => nine_far (w := wr) (b := w.heap.size + 1) (a0 := .int .i64 k) (a1 := .int .i64 e) (a2 := .int .i64 s) (a3 := .int .i64 t) (a4 := .slice UA j uc) (a5 := .int .i64 i) (a6 := .int .i64 n) (a7 := .int .i64 c) (a8 := .slice A3 cp.length y3) hq
        have hz := nine_size (w := wr) (b := w.heap.size + 1) (a0 := .int .i64 k) (a1 := .int .i64 e) (a2 := .int .i64 s) (a3 := .int .i64 t) (a4 := .slice UA j uc) (a5 := .int .i64 i) (a6 := .int .i64 n) (a7 := .int .i64 c) (a8 := .slice A3 cp.length y3)
        have hbl := nine_below (b := w.heap.size + 1) (a0 := .int .i64 k) (a1 := .int .i64 e) (a2 := .int .i64 s) (a3 := .int .i64 t) (a4 := .slice UA j uc) (a5 := .int .i64 i) (a6 := .int .i64 n) (a7 := .int .i64 c) (a8 := .slice A3 cp.length y3) (HBB.out.trans (HV9.out.mono HBB.out.size)) (Nat.le_succ _)
        unfold wnine at r
        clear g0 g1 g2 g3 g4 g5 g6 g7 g8
        obtain ⟨g0, g1, g2, g3, g4, g5, g6, g7, g8⟩ := nine_cells r
        refine bodyPost_ret (v := .agg #[.int .i64 k, .int .i64 e, .int .i64 s, .int .i64 t, .slice UA j uc, .int .i64 i, .int .i64 n, .int .i64 c, .slice A3 cp.length y3]) (by simp [results, Try.results30, go_sem, g0, g1, g2, g3, g4, g5, g6, g7, g8]) rfl ⟨⟨_, rfl, ?_⟩, hbl⟩
        rw [HFC.out]
        have hw0 := HBB.out.size; have hw1 := HE2.out; have hw2 := HG1.out; have hw3 := HGL.out; have hw4 := HK9.out.1
        refine FrIs.of (f := ⟨k, e, s, t, (ps.take 7).map Pc.cut, i, n, c, cp⟩) ?_ ?_
        · exact (HA9.out.slice.soft.keep fun q hq1 _ => hfar q (by omega)).widen (by omega) (Nat.le_of_eq hz.symm)
        · exact SliceOn.is_ (((HPATH.out.keep fun q hq => HK9.out.2 q hq.2.2 hq.2.1).keep fun q hq => hfar q (by omega)).widen fun q hq => ⟨by omega, Nat.lt_of_lt_of_le (Nat.lt_of_lt_of_le hq.2.1 hw4) (Nat.le_of_eq hz.symm)⟩)
end Go.Proofs.Ytdfgnmdofjhnkaa

/- slices.Clone of pieces. -/
namespace Go.Proofs.Ytdfgnmdofjhnkaa
open Go.RowKit

set_option maxRecDepth 100000 in
set_option maxHeartbeats 2000000 in
theorem clone_pieces (hi : Nat) (v : Value) (xs : List Pc.Piece) (w : World) (hhi : hi ≤ w.heap.size) (h : SliceIs Rep.piece false w 0 hi v xs) (hx : xs.length ≤ 1000000) : Calls Try.prog 88 #[v] w
    fun x w' => (∃ v', x = .returned v' ∧ Top Rep.piece 26 hi w.heap.size w' v' xs) ∧ Below w.heap.size w w' := by
  obtain ⟨A, c, rfl, hl, hm, hA⟩ := h
  have q : ∀ (w : World) (a : Option Addr) (n c n' c' : Nat), (binOp .eql 55 (.slice a n c) (.slice none n' c')).run Try.prog w = .ok (.bool a.isNone) w := fun w a n c n' c' => Lib.run_eql_slice_nil w _ _ a n c n' c' Try.underlying55
  cases A with
  | none =>
    have hxs : xs = [] := by
      obtain ⟨cells, _, h2⟩ := hA
      rcases Nat.eq_zero_or_pos xs.length with h0 | h0
      · exact List.eq_nil_of_length_eq_zero h0
      · obtain ⟨_, _, h, _⟩ := h2 h0; cases h
    subst hxs
    clear hA
    go_enter Try.func88, Try.ntmps88
    go_wp2_with fail
    go_ret
    exact ⟨⟨_, rfl, [], World.ownsRow_nil _ _ _ _, rfl⟩, Below.refl _ _⟩
  | some a =>
    have hown : (w.alloc (.cells ([] : List Value).toArray 26)).ownsRow w.heap.size 26 Rep.piece.size (.slice (some ⟨w.heap.size, 0, none⟩) 0 0) 0 [] := own_lit (size := Rep.piece.size) w.heap.size 26 0 [] (by simp) (Nat.le_refl _) (by unfold maxLen; omega)
    have hb0 : Below w.heap.size w (w.alloc (.cells ([] : List Value).toArray 26)) := (Below.refl _ _).alloc (Nat.le_refl _) _
    have hA2 := hA.below hb0 hhi
    have HO := Lib.hid hown; clear hown
    have HA := Lib.hid hA2; clear hA2 hA
    go_enter Try.func88, Try.ntmps88
    go_wp2_with (at_builtin; refine wpList_appendS (r := Rep.piece) rfl (.tmp 5) (.tmp 6) 55 rfl w.heap.size 26 Try.infoPiece Try.underlying55 rfl _ 0 [] rfl HO.out _ _ rfl HA.out (by unfold maxLen; omega) (by omega) (by simp) ?_; intro v1 w1 news hn hown1 hg1 hb1 ha1)
    go_ret
    exact ⟨⟨_, rfl, news, by simpa using hown1, Rep.all_keep (fun b hb => hb1.block b (Nat.lt_of_lt_of_le hb.2 hhi)) hn⟩, hb0.trans hb1⟩
end Go.Proofs.Ytdfgnmdofjhnkaa

/- The document's get. -/
namespace Go.Proofs.Ytdfgnmdofjhnkaa
open Go.RowKit

namespace Fr
/-- The number at a place, and the place behind it; 0 and the same place, if there is none. -/
def g2 (l : List UInt8) (at_ : Nat) : Nat × Nat := match W.rd (l.drop at_) 0 0 with
  | .bad _ => (0, at_)
  | .ok n i => (n, at_ + i)
theorem g2_le {l : List UInt8} {at_ : Nat} (h : at_ ≤ l.length) : (g2 l at_).2 ≤ l.length := by
  unfold g2
  split
  · exact h
  · rename_i n i hr
    have := W.rd_pos _ _ _ _ _ hr
    rw [List.length_drop] at this
    dsimp only
    omega
theorem g2_put {n : Int} {r l : List UInt8} {at_ : Nat} (h : l.drop at_ = W.put n ++ r) : g2 l at_ = (W.cl n, at_ + (W.put n).length) ∧ l.drop (at_ + (W.put n).length) = r := by
  refine ⟨by unfold g2; rw [h, W.rd_put], ?_⟩
  rw [← List.drop_drop, h, List.drop_left]
theorem g2_end {l : List UInt8} {at_ : Nat} (h : l.drop at_ = []) : g2 l at_ = (0, at_) := by unfold g2; rw [h]; rfl
end Fr

set_option maxRecDepth 100000 in
set_option maxHeartbeats 2000000 in
theorem rfget_any (s : ByteArray) (at_ : Nat) (w : World) (hs : s.size ≤ 1000000000) (h : at_ ≤ s.size) : Calls Try.prog 98 #[.string s, .int .i64 at_] w
    fun x w' => x = .returned (.tuple #[.int .i64 (Fr.g2 s.data.toList at_).1, .int .i64 (Fr.g2 s.data.toList at_).2]) ∧ w = w' := by
  have hc := rget_any s at_ w hs h
  unfold Fr.g2
  cases hr : W.rd (s.data.toList.drop at_) 0 0 with
  | bad e =>
    rw [hr] at hc
    have he := Pc.rd_err _ _ _ _ hr
    have b : ((e : Int) == 0) = false := by simp only [beq_eq_false_iff_ne, ne_eq]; omega
    have b2 : ((e : Int) != 0) = true := by simp only [bne_iff_ne, ne_eq]; omega
    unfold getEnd at hc
    have HC := Lib.hid hc; clear hc hr he
    go_enter Try.func98, Try.ntmps98
    go_wp2_with fail
    refine HC.out.mono ?_
    rintro z w1 ⟨rfl, rfl⟩
    go_wp2_with fail
    go_ret2
    exact ⟨rfl, rfl⟩
  | ok n i =>
    rw [hr] at hc
    unfold getEnd at hc
    have HC := Lib.hid hc; clear hc hr
    go_enter Try.func98, Try.ntmps98
    go_wp2_with fail
    refine HC.out.mono ?_
    rintro z w1 ⟨rfl, rfl⟩
    go_wp2_with fail
    go_ret2
    exact ⟨by first | rfl | simp, rfl⟩
end Go.Proofs.Ytdfgnmdofjhnkaa

/- A frame of numbers alone, read again. Nothing of the program. -/
namespace Go.Proofs.Ytdfgnmdofjhnkaa
namespace Fr
/-- The numbers of a frame that holds no pieces. -/
def heads (f : Fr) : List Int :=
  if f.kind = 0 then [f.kind, f.epoch, f.seq, f.letter] else
  if f.kind = 6 then [f.kind, f.init, f.num, f.count, (f.path.length : Int)] ++ f.path else [f.kind, f.epoch]
theorem body_heads {f : Fr} (h : f.kind ≠ 5) : body f = W.puts (heads f) := by
  unfold body heads
  by_cases h0 : f.kind = 0
  · rw [if_pos h0, if_pos h0]
  · rw [if_neg h0, if_neg h0, if_neg h]
    by_cases h6 : f.kind = 6
    · rw [if_pos h6, if_pos h6]
    · rw [if_neg h6, if_neg h6]
/-- The frame of numbers (frame.numbers). -/
def numF (l : List Int) : Fr :=
  if l.getD 0 0 = 0 then ⟨0, l.getD 1 0, l.getD 2 0, l.getD 3 0, [], 0, 0, 0, []⟩ else
  if l.getD 0 0 = 6 then ⟨6, 0, 0, 0, [], l.getD 1 0, l.getD 2 0, l.getD 3 0, ((l ++ [0, 0, 0, 0, 0]).drop 5).take (min (max (l.getD 4 0) 0) (l.length : Int)).toNat⟩ else
  ⟨l.getD 0 0, l.getD 1 0, 0, 0, [], 0, 0, 0, []⟩
theorem numF_heads {f : Fr} (h : right f = true) (h5 : f.kind ≠ 5) : numF (heads f) = f := by
  have ho := right_only h
  obtain ⟨k, e, s, t, ps, i, n, c, p⟩ := f
  dsimp only at h5
  by_cases k0 : k = 0
  · subst k0
    rw [show only ⟨0, e, s, t, ps, i, n, c, p⟩ = ⟨0, e, s, t, [], 0, 0, 0, []⟩ from rfl] at ho
    simp only [Fr.mk.injEq] at ho
    obtain ⟨_, _, _, _, rfl, rfl, rfl, rfl, rfl⟩ := ho
    rfl
  · by_cases k6 : k = 6
    · subst k6
      rw [show only ⟨6, e, s, t, ps, i, n, c, p⟩ = ⟨6, 0, 0, 0, [], i, n, c, p⟩ from rfl] at ho
      simp only [Fr.mk.injEq] at ho
      obtain ⟨_, rfl, rfl, rfl, rfl, _⟩ := ho
      show (⟨6, 0, 0, 0, [], i, n, c, (p ++ [0, 0, 0, 0, 0]).take (min (max (p.length : Int) 0) ((p.length + 1 + 1 + 1 + 1 + 1 : Nat) : Int)).toNat⟩ : Fr) = _
      rw [show (min (max (p.length : Int) 0) ((p.length + 1 + 1 + 1 + 1 + 1 : Nat) : Int)).toNat = p.length by omega, List.take_left]
    · have hon : only ⟨k, e, s, t, ps, i, n, c, p⟩ = ⟨k, e, 0, 0, [], 0, 0, 0, []⟩ := by unfold only; rw [if_neg k0, if_neg h5, if_neg k6]
      rw [hon] at ho
      simp only [Fr.mk.injEq] at ho
      obtain ⟨_, _, rfl, rfl, rfl, rfl, rfl, rfl, rfl⟩ := ho
      have hh : heads ⟨k, e, 0, 0, [], 0, 0, 0, []⟩ = [k, e] := by unfold heads; rw [if_neg k0, if_neg k6]
      rw [hh]
      unfold numF
      rw [if_neg (show ¬ [k, e].getD 0 0 = 0 from k0), if_neg (show ¬ [k, e].getD 0 0 = 6 from k6)]
      rfl
theorem node_iff {n : Int} (h : node n = true) : 0 ≤ n ∧ n ≤ 5 := of_decide_eq_true h
theorem heads_nums {f : Fr} (h : right f = true) (h5 : f.kind ≠ 5) : Pc.Nums (heads f) := by
  have hk := right_kind h
  have hu := right_rule h
  obtain ⟨k, e, s, t, ps, i, n, c, p⟩ := f
  dsimp only at h5 hk
  intro x hx
  by_cases k0 : k = 0
  · subst k0
    have hu : app ⟨0, e, s, t, ps, i, n, c, p⟩ = true := hu
    simp only [app, Pc.within, Bool.and_eq_true, decide_eq_true_eq] at hu
    have hx : x ∈ [0, e, s, t] := hx
    simp only [List.mem_cons, List.not_mem_nil, or_false] at hx
    omega
  · by_cases k6 : k = 6
    · subst k6
      have hu : probe ⟨6, e, s, t, ps, i, n, c, p⟩ = true := hu
      simp only [probe, Pc.within, Bool.and_eq_true, decide_eq_true_eq, List.all_eq_true] at hu
      have hx : x ∈ [6, i, n, c, (p.length : Int)] ++ p := hx
      rcases List.mem_append.1 hx with hx | hx
      · simp only [List.mem_cons, List.not_mem_nil, or_false] at hx
        omega
      · have := node_iff (hu.2.2.2.2 x hx)
        omega
    · have hr : rule ⟨k, e, s, t, ps, i, n, c, p⟩ = Pc.within e 1 200 := by unfold rule; rw [if_neg k0, if_neg h5, if_neg k6]; rfl
      rw [hr] at hu
      have hu := of_decide_eq_true hu
      have hh : heads ⟨k, e, s, t, ps, i, n, c, p⟩ = [k, e] := by unfold heads; rw [if_neg k0, if_neg k6]
      rw [hh] at hx
      simp only [List.mem_cons, List.not_mem_nil, or_false] at hx
      omega
/-- What is read of a frame's bytes as numbers alone. -/
theorem all_body {f : Fr} (h : right f = true) (h5 : f.kind ≠ 5) : ∃ l, W.all (body f) = .ok l ∧ numF (Pc.zs l) = f := by
  refine ⟨(heads f).map W.cl, by rw [body_heads h5, Pc.all_nums], ?_⟩
  rw [Pc.zs_cl (heads_nums h h5)]
  exact numF_heads h h5
end Fr
end Go.Proofs.Ytdfgnmdofjhnkaa

/- A report's bytes, read again. Nothing of the program. -/
namespace Go.Proofs.Ytdfgnmdofjhnkaa
namespace Fr
/-- Where the pieces' bytes begin. -/
def hd (f : Fr) : Nat := (W.puts [5, f.epoch, (f.pieces.length : Int)]).length
/-- Where piece j's bytes begin. -/
def off (f : Fr) (j : Nat) : Nat := hd f + (texts (f.pieces.take j)).length
theorem body_5' {f : Fr} (h5 : f.kind = 5) : body f = W.puts [5, f.epoch, (f.pieces.length : Int)] ++ texts f.pieces := by
  unfold body
  rw [if_neg (by omega), if_pos h5, h5]
theorem texts_append (a b : List Pc.Piece) : texts (a ++ b) = texts a ++ texts b := by simp [texts]
theorem drop_off {f : Fr} (h5 : f.kind = 5) (j : Nat) : (body f).drop (off f j) = texts (f.pieces.drop j) := by
  have e : texts f.pieces = texts (f.pieces.take j) ++ texts (f.pieces.drop j) := by rw [← texts_append, List.take_append_drop]
  rw [body_5' h5, e, off, hd, ← List.append_assoc, ← List.length_append, List.drop_left]
theorem right_pieces {f : Fr} (h : right f = true) (h5 : f.kind = 5) : (1 ≤ f.epoch ∧ f.epoch ≤ 200) ∧ (1 ≤ f.pieces.length ∧ f.pieces.length ≤ 6) ∧ ∀ p ∈ f.pieces, Pc.right p = true := by
  have hu := right_rule h
  obtain ⟨k, e, s, t, ps, i, n, c, p⟩ := f
  dsimp only at h5
  subst h5
  have hu : report ⟨5, e, s, t, ps, i, n, c, p⟩ = true := hu
  simp only [report, control, Pc.within, Bool.and_eq_true, decide_eq_true_eq, List.all_eq_true] at hu
  exact ⟨hu.1, ⟨by dsimp only; omega, by dsimp only; omega⟩, hu.2.2⟩
theorem piece_at {f : Fr} (h : right f = true) (h5 : f.kind = 5) {j : Nat} {p : Pc.Piece} (hx : f.pieces[j]? = some p) {top : Int} (ht : 1000000 ≤ top) :
    W.take ((body f).drop (off f j)) top = .ok (Pc.enc p) (W.text (Pc.enc p)).length ∧ Pc.dec (Pc.enc p) = p ∧ Pc.decE (Pc.enc p) = 0 ∧ off f (j + 1) = off f j + (W.text (Pc.enc p)).length := by
  have hp := (right_pieces h h5).2.2 p (List.mem_of_getElem? hx)
  have hl := enc_le hp
  have hd : texts (f.pieces.drop j) = W.text (Pc.enc p) ++ texts (f.pieces.drop (j + 1)) := by rw [Pc.drop_at hx]; simp [texts]
  have he : Pc.enc p = W.puts (Pc.nums p) := by unfold Pc.enc; rw [if_pos hp]
  refine ⟨by rw [drop_off h5, hd]; exact take_text _ _ _ (by omega) (by omega), by rw [he]; exact (Pc.dec_enc hp).1, by rw [he]; exact (Pc.dec_enc hp).2, ?_⟩
  unfold off
  rw [Pc.take_next hx, texts_snoc, List.length_append]
  omega
/-- The numbers ahead of the pieces. -/
theorem head_5 {f : Fr} (h : right f = true) (h5 : f.kind = 5) :
    W.rd (body f) 0 0 = .ok 5 (W.put 5).length ∧
    W.rd ((body f).drop (W.put 5).length) 0 0 = .ok f.epoch.toNat (W.put f.epoch).length ∧
    W.rd ((body f).drop ((W.put 5).length + (W.put f.epoch).length)) 0 0 = .ok f.pieces.length (W.put (f.pieces.length : Int)).length ∧
    off f 0 = (W.put 5).length + (W.put f.epoch).length + (W.put (f.pieces.length : Int)).length := by
  obtain ⟨⟨e1, e2⟩, ⟨l1, l2⟩, _⟩ := right_pieces h h5
  have hb : body f = W.put 5 ++ (W.put f.epoch ++ (W.put (f.pieces.length : Int) ++ texts f.pieces)) := by rw [body_5' h5]; simp [W.puts]
  have c5 : W.cl 5 = 5 := by decide
  have ce : W.cl f.epoch = f.epoch.toNat := by have := W.cl_of f.epoch (by omega) (by omega); omega
  have cn : W.cl (f.pieces.length : Int) = f.pieces.length := by have := W.cl_of (f.pieces.length : Int) (by omega) (by omega); omega
  refine ⟨?_, ?_, ?_, ?_⟩
  · rw [hb, W.rd_put, c5]
  · rw [hb, List.drop_left, W.rd_put, ce]
  · rw [← List.drop_drop, hb, List.drop_left, List.drop_left, W.rd_put, cn]
  · unfold off hd
    simp [W.puts, texts]
    omega
end Fr
end Go.Proofs.Ytdfgnmdofjhnkaa

/- word.Get and the place behind, whatever the bytes. -/
namespace Go.Proofs.Ytdfgnmdofjhnkaa
open Go.RowKit

namespace Fr
/-- word.Get's three answers at a place. -/
def g3 (l : List UInt8) (at_ : Nat) : Nat × Nat × Nat := match W.rd (l.drop at_) 0 0 with
  | .bad e => (0, 0, e)
  | .ok n i => (n, at_ + i, 0)
theorem g3_le {l : List UInt8} {at_ : Nat} (h : at_ ≤ l.length) : (g3 l at_).2.1 ≤ l.length := by
  unfold g3
  split
  · exact Nat.zero_le _
  · rename_i n i hr
    have := W.rd_pos _ _ _ _ _ hr
    rw [List.length_drop] at this
    dsimp only
    omega
theorem g3_num (l : List UInt8) (at_ : Nat) : (g3 l at_).1 ≤ 2147483647 := by
  unfold g3
  split
  · exact Nat.zero_le _
  · rename_i n i hr
    exact (W.rd_pos _ _ _ _ _ hr).2.2
theorem g3_ok {l : List UInt8} {at_ n i : Nat} (h : W.rd (l.drop at_) 0 0 = .ok n i) : g3 l at_ = (n, at_ + i, 0) := by unfold g3; rw [h]
theorem getEnd_g3 (l : List UInt8) (at_ : Nat) : getEnd at_ (W.rd (l.drop at_) 0 0) = .returned (.tuple #[.int .i64 (g3 l at_).1, .int .i64 (g3 l at_).2.1, .int .i64 (g3 l at_).2.2]) := by
  unfold g3 getEnd
  cases W.rd (l.drop at_) 0 0 with
  | bad e => rfl
  | ok n i => simp
/-- Take's three answers at a place. -/
def t3 (l : List UInt8) (at_ : Nat) (top : Int) : List UInt8 × Nat × Nat := match W.take (l.drop at_) top with
  | .bad e => ([], 0, e)
  | .ok t j => (t, at_ + j, 0)
theorem TakeEnd_t3 (l : List UInt8) (at_ : Nat) (top : Int) : TakeEnd at_ (W.take (l.drop at_) top) = .returned (.tuple #[.string ⟨(t3 l at_ top).1.toArray⟩, .int .i64 (t3 l at_ top).2.1, .int .i64 (t3 l at_ top).2.2]) := by
  unfold t3 TakeEnd
  cases W.take (l.drop at_) top with
  | bad e => rfl
  | ok t j => simp
theorem t3_ok {l t : List UInt8} {at_ j : Nat} {top : Int} (h : W.take (l.drop at_) top = .ok t j) : t3 l at_ top = (t, at_ + j, 0) := by unfold t3; rw [h]
theorem take_len {l t : List UInt8} {top : Int} {j : Nat} (h : W.take l top = .ok t j) : j ≤ l.length ∧ t.length ≤ l.length := by
  cases hr : W.rd l 0 0 with
  | bad e => rw [W.take_bad hr] at h; cases h
  | ok n i =>
    by_cases h1 : (n : Int) ≤ max top 0
    · by_cases h2 : n ≤ l.length - i
      · rw [W.take_ok hr h1 h2] at h
        have hp := W.rd_pos _ _ _ _ _ hr
        cases h
        refine ⟨by omega, ?_⟩
        rw [List.length_take, List.length_drop]
        omega
      · rw [W.take_short hr h1 h2] at h; cases h
    · rw [W.take_big hr h1] at h; cases h
theorem t3_le {l : List UInt8} {at_ : Nat} {top : Int} (h : at_ ≤ l.length) : (t3 l at_ top).2.1 ≤ l.length ∧ (t3 l at_ top).1.length ≤ l.length := by
  unfold t3
  cases hk : W.take (l.drop at_) top with
  | bad e => exact ⟨Nat.zero_le _, Nat.zero_le _⟩
  | ok t j =>
    have := take_len hk
    rw [List.length_drop] at this
    dsimp only
    omega
theorem rep_head {l : List UInt8} {at_ n1 a1 e1 n2 a2 e2 m : Nat} (h1 : g3 l at_ = (n1, a1, e1)) (h2 : g3 l a1 = (n2, a2, e2)) (hm : min (n2 : Int) 6 = (m : Int)) :
    ∀ F, right F = true → F.kind = 5 → body F = l → at_ = (W.put 5).length → n1 = F.epoch.toNat ∧ m = F.pieces.length ∧ a2 = off F 0 := by
  intro F hr h5 hb ha
  obtain ⟨_, k1, k2, k3⟩ := head_5 hr h5
  have hl := (right_pieces hr h5).2.1
  subst hb ha
  rw [g3_ok k1] at h1
  cases h1
  rw [g3_ok k2] at h2
  cases h2
  exact ⟨rfl, by omega, k3.symm⟩
end Fr
theorem get3_any (s : ByteArray) (at_ : Nat) (w : World) (hs : s.size ≤ 1000000000) (h : at_ ≤ s.size) : Calls Try.prog 72 #[.string s, .int .i64 at_] w
    fun x w' => x = .returned (.tuple #[.int .i64 (Fr.g3 s.data.toList at_).1, .int .i64 (Fr.g3 s.data.toList at_).2.1, .int .i64 (Fr.g3 s.data.toList at_).2.2]) ∧ Below w.heap.size w w' := by
  rw [← Fr.getEnd_g3]; exact get_any s at_ w hs h
theorem take3_any (s : ByteArray) (at_ : Nat) (top : Int) (w : World) (hs : s.size ≤ 1000000000) (h : at_ ≤ s.size) : Calls Try.prog 97 #[.string s, .int .i64 at_, .int .i64 top] w
    fun x w' => x = .returned (.tuple #[.string ⟨(Fr.t3 s.data.toList at_ top).1.toArray⟩, .int .i64 (Fr.t3 s.data.toList at_ top).2.1, .int .i64 (Fr.t3 s.data.toList at_ top).2.2]) ∧ Below w.heap.size w w' := by
  rw [← Fr.TakeEnd_t3]; exact take_any s at_ top w hs h
theorem rtake3_any (s : ByteArray) (at_ : Nat) (top : Int) (w : World) (hs : s.size ≤ 1000000000) (h : at_ ≤ s.size) : Calls Try.prog 99 #[.string s, .int .i64 at_, .int .i64 top] w
    fun x w' => x = .returned (.tuple #[.string ⟨(Fr.t3 s.data.toList at_ top).1.toArray⟩, .int .i64 (Fr.t3 s.data.toList at_ top).2.1, .int .i64 (Fr.t3 s.data.toList at_ top).2.2]) ∧ w = w' := by
  rw [← Fr.TakeEnd_t3]; exact rtake_any s at_ top w hs h
end Go.Proofs.Ytdfgnmdofjhnkaa

/- A frame's bytes, read number by number with 'get'. Nothing of the program. -/
namespace Go.Proofs.Ytdfgnmdofjhnkaa
namespace Fr
theorem g2_list {L : List Int} {r l : List UInt8} (hl : l = W.puts L ++ r) {j : Nat} {x : Int} (hx : L[j]? = some x) :
    g2 l (W.puts (L.take j)).length = (W.cl x, (W.puts (L.take (j + 1))).length) := by
  have e : L = L.take j ++ x :: L.drop (j + 1) := by rw [← Pc.drop_at hx, List.take_append_drop]
  have hd : l.drop (W.puts (L.take j)).length = W.put x ++ (W.puts (L.drop (j + 1)) ++ r) := by
    have : W.puts L = W.puts (L.take j) ++ (W.put x ++ W.puts (L.drop (j + 1))) := by
      conv => lhs; rw [e]
      simp [W.puts]
    rw [hl, this, List.append_assoc, List.drop_left, List.append_assoc]
  rw [(g2_put hd).1, Pc.take_next hx]
  simp [W.puts]
/-- Where the number j of a probe's path begins. -/
def poff (f : Fr) (j : Nat) : Nat := (W.puts ([6, f.init, f.num, f.count, (f.path.length : Int)] ++ f.path.take j)).length
theorem body6 {f : Fr} (h6 : f.kind = 6) : body f = W.puts ([6, f.init, f.num, f.count, (f.path.length : Int)] ++ f.path) ++ [] := by
  rw [body_heads (by omega)]
  unfold heads
  rw [if_neg (by omega), if_pos h6, h6, List.append_nil]
theorem right_nums6 {f : Fr} (h : right f = true) (h6 : f.kind = 6) : (0 ≤ f.init ∧ f.init ≤ 5) ∧ (1 ≤ f.num ∧ f.num ≤ 200) ∧ (0 ≤ f.count ∧ f.count ≤ 500) ∧ (1 ≤ f.path.length ∧ f.path.length ≤ 6) ∧ ∀ x ∈ f.path, 0 ≤ x ∧ x ≤ 5 := by
  have hu := right_rule h
  obtain ⟨k, e, s, t, ps, i, n, c, p⟩ := f
  dsimp only at h6
  subst h6
  have hu : probe ⟨6, e, s, t, ps, i, n, c, p⟩ = true := hu
  simp only [probe, Pc.within, Bool.and_eq_true, decide_eq_true_eq, List.all_eq_true] at hu
  obtain ⟨h1, h2, h3, h4, h5⟩ := hu
  exact ⟨h1, h2, h3, ⟨by dsimp only; omega, by dsimp only; omega⟩, fun x hx => node_iff (h5 x hx)⟩
theorem path_at {f : Fr} (h : right f = true) (h6 : f.kind = 6) {j : Nat} {x : Int} (hx : f.path[j]? = some x) : g2 (body f) (poff f j) = (x.toNat, poff f (j + 1)) := by
  have hn := (right_nums6 h h6).2.2.2.2 x (List.mem_of_getElem? hx)
  have hc : W.cl x = x.toNat := by have := W.cl_of x (by omega) (by omega); omega
  have := g2_list (body6 h6) (j := j + 5) (x := x) (by simpa using hx)
  rw [hc] at this
  exact this
theorem path_0 {f : Fr} (h : right f = true) (h6 : f.kind = 6) : ∃ a0 a1 a2 a3, g2 (body f) 0 = (6, a0) ∧ g2 (body f) a0 = (f.init.toNat, a1) ∧ g2 (body f) a1 = (f.num.toNat, a2) ∧ g2 (body f) a2 = (f.count.toNat, a3) ∧ g2 (body f) a3 = (f.path.length, poff f 0) := by
  obtain ⟨h1, h2, h3, h4, _⟩ := right_nums6 h h6
  have c6 : W.cl 6 = 6 := by decide
  have c1 : W.cl f.init = f.init.toNat := by have := W.cl_of f.init (by omega) (by omega); omega
  have c2 : W.cl f.num = f.num.toNat := by have := W.cl_of f.num (by omega) (by omega); omega
  have c3 : W.cl f.count = f.count.toNat := by have := W.cl_of f.count (by omega) (by omega); omega
  have c4 : W.cl (f.path.length : Int) = f.path.length := by have := W.cl_of (f.path.length : Int) (by omega) (by omega); omega
  have q0 := g2_list (body6 h6) (j := 0) (x := 6) rfl
  have q1 := g2_list (body6 h6) (j := 1) (x := f.init) rfl
  have q2 := g2_list (body6 h6) (j := 2) (x := f.num) rfl
  have q3 := g2_list (body6 h6) (j := 3) (x := f.count) rfl
  have q4 := g2_list (body6 h6) (j := 4) (x := (f.path.length : Int)) rfl
  rw [c6] at q0
  rw [c1] at q1
  rw [c2] at q2
  rw [c3] at q3
  rw [c4] at q4
  refine ⟨_, _, _, _, q0, q1, q2, q3, ?_⟩
  unfold poff
  rw [List.take_zero, List.append_nil]
  exact q4
theorem body_4 {f : Fr} (h5 : f.kind ≠ 5) : body f = W.puts (heads f) ++ [] := by rw [body_heads h5, List.append_nil]
theorem heads_4 {f : Fr} (h0 : f.kind ≠ 0) (h6 : f.kind ≠ 6) : heads f = [f.kind, f.epoch] := by unfold heads; rw [if_neg h0, if_neg h6]
theorem heads_0 {f : Fr} (h0 : f.kind = 0) : heads f = [0, f.epoch, f.seq, f.letter] := by unfold heads; rw [if_pos h0, h0]
/-- The kind's number, of any frame that may be. -/
theorem kind_at (f : Fr) : ∃ r, body f = W.puts [f.kind] ++ r := by
  by_cases h5 : f.kind = 5
  · exact ⟨W.puts [f.epoch, (f.pieces.length : Int)] ++ texts f.pieces, by rw [body_5' h5, h5]; simp [W.puts]⟩
  · by_cases h6 : f.kind = 6
    · exact ⟨W.puts ([f.init, f.num, f.count, (f.path.length : Int)] ++ f.path), by rw [body6 h6, h6]; simp [W.puts]⟩
    · by_cases h0 : f.kind = 0
      · exact ⟨W.puts [f.epoch, f.seq, f.letter], by rw [body_4 h5, heads_0 h0, h0]; simp [W.puts]⟩
      · exact ⟨W.puts [f.epoch], by rw [body_4 h5, heads_4 h0 h6]; simp [W.puts]⟩
theorem g2_kind {f : Fr} (h : right f = true) : g2 (body f) 0 = (f.kind.toNat, (W.put f.kind).length) := by
  obtain ⟨r, hr⟩ := kind_at f
  have hk := right_kind h
  have c : W.cl f.kind = f.kind.toNat := by have := W.cl_of f.kind (by omega) (by omega); omega
  have := g2_list hr (j := 0) (x := f.kind) rfl
  rw [c] at this
  simpa [W.puts] using this
theorem epoch_0 {f : Fr} (h : right f = true) (h6 : f.kind ≠ 6) : 0 ≤ f.epoch ∧ f.epoch ≤ 200 := by
  have hn := right_no h6
  apply Classical.byContradiction
  intro hc
  have := hn (fun ho => hc ho.2.2.1)
  rw [h] at this
  cases this
theorem g2_epoch {f : Fr} (h : right f = true) (h6 : f.kind ≠ 6) : g2 (body f) (W.put f.kind).length = (f.epoch.toNat, (W.puts [f.kind, f.epoch]).length) := by
  have he := epoch_0 h h6
  have c : W.cl f.epoch = f.epoch.toNat := by have := W.cl_of f.epoch (by omega) (by omega); omega
  have : ∃ r, body f = W.puts [f.kind, f.epoch] ++ r := by
    by_cases h5 : f.kind = 5
    · exact ⟨W.puts [(f.pieces.length : Int)] ++ texts f.pieces, by rw [body_5' h5, h5]; simp [W.puts]⟩
    · by_cases h0 : f.kind = 0
      · exact ⟨W.puts [f.seq, f.letter], by rw [body_4 h5, heads_0 h0, h0]; simp [W.puts]⟩
      · exact ⟨[], by rw [body_4 h5, heads_4 h0 h6]⟩
  obtain ⟨r, hr⟩ := this
  have := g2_list hr (j := 1) (x := f.epoch) rfl
  rw [c] at this
  simpa [W.puts] using this
theorem g2_app {f : Fr} (h : right f = true) (h0 : f.kind = 0) : ∃ a2 a3, g2 (body f) (W.puts [f.kind, f.epoch]).length = (f.seq.toNat, a2) ∧ g2 (body f) a2 = (f.letter.toNat, a3) ∧ 0 ≤ f.seq ∧ 0 ≤ f.letter := by
  have hu := right_rule h
  have hu : app f = true := by unfold rule at hu; rw [if_pos h0] at hu; exact hu
  simp only [app, Pc.within, Bool.and_eq_true, decide_eq_true_eq] at hu
  have c2 : W.cl f.seq = f.seq.toNat := by have := W.cl_of f.seq (by omega) (by omega); omega
  have c3 : W.cl f.letter = f.letter.toNat := by have := W.cl_of f.letter (by omega) (by omega); omega
  have hr := body_4 (f := f) (by omega)
  rw [heads_0 h0] at hr
  have q2 := g2_list hr (j := 2) (x := f.seq) rfl
  have q3 := g2_list hr (j := 3) (x := f.letter) rfl
  rw [c2] at q2
  rw [c3] at q3
  rw [h0]
  exact ⟨_, _, q2, q3, by omega, by omega⟩
theorem g2_report {f : Fr} (h : right f = true) (h5 : f.kind = 5) : g2 (body f) (W.puts [f.kind, f.epoch]).length = (f.pieces.length, off f 0) := by
  have hn := (right_pieces h h5).2.1
  have c : W.cl (f.pieces.length : Int) = f.pieces.length := by have := W.cl_of (f.pieces.length : Int) (by omega) (by omega); omega
  have := g2_list (body_5' h5) (j := 2) (x := (f.pieces.length : Int)) rfl
  rw [c] at this
  unfold off hd
  rw [h5]
  simpa [texts] using this
/-- What the heads that are read say of any frame of these bytes: each kind at once. -/
theorem heads_say {l : List UInt8} {k a a1 b c d e g : Nat} (h0 : g2 l 0 = (k, a)) (h1 : g2 l a = (a1, b)) (h2 : g2 l b = (c, d)) (h3 : g2 l d = (e, g)) :
    ∀ F, right F = true → body F = l → F.kind = (k : Int) ∧ (k ≠ 6 → F.epoch = (a1 : Int)) ∧ (k = 0 → F.seq = (c : Int) ∧ F.letter = (e : Int)) ∧ (k = 5 → c = F.pieces.length ∧ d = off F 0) ∧
      (k = 6 → F.init = (a1 : Int) ∧ F.num = (c : Int) ∧ F.count = (e : Int) ∧ g2 l g = (F.path.length, poff F 0)) := by
  intro F hr hb
  subst hb
  have hk := right_kind hr
  have k0 := g2_kind hr
  rw [h0] at k0
  simp only [Prod.mk.injEq] at k0
  obtain ⟨rfl, rfl⟩ := k0
  refine ⟨by omega, fun h => ?_, fun h => ?_, fun h => ?_, fun h => ?_⟩
  · have := g2_epoch hr (by omega)
    have := epoch_0 hr (by omega)
    simp_all
    omega
  · have e1 := g2_epoch hr (by omega)
    rw [h1] at e1
    simp only [Prod.mk.injEq] at e1
    obtain ⟨_, rfl⟩ := e1
    obtain ⟨a2, a3, e2, e3, e4, e5⟩ := g2_app hr (by omega)
    rw [h2] at e2
    simp only [Prod.mk.injEq] at e2
    obtain ⟨rfl, rfl⟩ := e2
    rw [h3] at e3
    simp only [Prod.mk.injEq] at e3
    omega
  · have e1 := g2_epoch hr (by omega)
    rw [h1] at e1
    simp only [Prod.mk.injEq] at e1
    obtain ⟨_, rfl⟩ := e1
    have e2 := g2_report hr (by omega)
    rw [h2] at e2
    simpa using e2
  · have h6 : F.kind = 6 := by omega
    obtain ⟨a0, a1', a2, a3, e0, e1, e2, e3, e4⟩ := path_0 hr h6
    obtain ⟨n1, n2, n3, _, _⟩ := right_nums6 hr h6
    rw [h0] at e0
    simp only [Prod.mk.injEq] at e0
    obtain ⟨_, rfl⟩ := e0
    rw [h1] at e1
    simp only [Prod.mk.injEq] at e1
    obtain ⟨rfl, rfl⟩ := e1
    rw [h2] at e2
    simp only [Prod.mk.injEq] at e2
    obtain ⟨rfl, rfl⟩ := e2
    rw [h3] at e3
    simp only [Prod.mk.injEq] at e3
    obtain ⟨rfl, rfl⟩ := e3
    exact ⟨by omega, by omega, by omega, e4⟩
/-- What is known of the frame that was read of these bytes: it is the one that may be, if there is one. -/
def IsRd (l : List UInt8) (f : Fr) : Prop := ∀ F, right F = true → body F = l → f = F
theorem isRd_app {l : List UInt8} {a1 c e : Nat} (h : ∀ F, right F = true → body F = l → F.kind = 0 ∧ F.epoch = (a1 : Int) ∧ F.seq = (c : Int) ∧ F.letter = (e : Int)) : IsRd l ⟨0, (a1 : Int), (c : Int), (e : Int), [], 0, 0, 0, []⟩ := by
  intro F hr hb
  obtain ⟨h1, h2, h3, h4⟩ := h F hr hb
  have ho := right_only hr
  rw [ho]
  unfold only
  rw [if_pos h1, h2, h3, h4]
theorem isRd_one {l : List UInt8} {k a1 : Nat} (k0 : k ≠ 0) (k5 : k ≠ 5) (k6 : k ≠ 6) (h : ∀ F, right F = true → body F = l → F.kind = (k : Int) ∧ F.epoch = (a1 : Int)) : IsRd l ⟨(k : Int), (a1 : Int), 0, 0, [], 0, 0, 0, []⟩ := by
  intro F hr hb
  obtain ⟨h1, h2⟩ := h F hr hb
  have ho := right_only hr
  rw [ho]
  unfold only
  rw [if_neg (by omega), if_neg (by omega), if_neg (by omega), h1, h2]
theorem isRd_rep {l : List UInt8} {a1 : Nat} {ps : List Pc.Piece} (h : ∀ F, right F = true → body F = l → F.kind = 5 ∧ F.epoch = (a1 : Int) ∧ ps = F.pieces) : IsRd l ⟨5, (a1 : Int), 0, 0, ps, 0, 0, 0, []⟩ := by
  intro F hr hb
  obtain ⟨h1, h2, h3⟩ := h F hr hb
  have ho := right_only hr
  rw [ho]
  unfold only
  rw [if_neg (by omega), if_pos h1, h2, h3]
theorem isRd_probe {l : List UInt8} {a c e : Nat} {xs : List Int} (h : ∀ F, right F = true → body F = l → F.kind = 6 ∧ F.init = (a : Int) ∧ F.num = (c : Int) ∧ F.count = (e : Int) ∧ xs = F.path) : IsRd l ⟨6, 0, 0, 0, [], (a : Int), (c : Int), (e : Int), xs⟩ := by
  intro F hr hb
  obtain ⟨h1, h2, h3, h4, h5⟩ := h F hr hb
  have ho := right_only hr
  rw [ho]
  unfold only
  rw [if_neg (by omega), if_neg (by omega), if_pos h1, h2, h3, h4, h5]
end Fr
end Go.Proofs.Ytdfgnmdofjhnkaa
