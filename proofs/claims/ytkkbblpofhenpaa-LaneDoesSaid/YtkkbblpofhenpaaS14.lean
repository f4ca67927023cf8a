/- Lemmas, walks and contracts that the statements of this seat are proved by. -/
import Derived.Test.YtkkbblpofhenpaaS12
import Derived.Test.YtkkbblpofhenpaaS13
/- The document's Take of lanes. -/
namespace Go.Proofs.Ytkkbblpofhenpaa
open Go.RowKit

set_option maxRecDepth 100000 in
set_option maxHeartbeats 1000000 in
theorem ratake_low (v : Value) (fi : Bool) (cp : Int) (l : List Fr) (i : Int) (w : World) (S : Nat → Prop) (hS : ∀ b, S b → b < w.heap.size) (h : LaOn w S v ⟨fi, cp, l⟩) (hi : i < 0) : Calls Try.prog 23 #[v, .int .i64 i] w
    fun y w' => y = .returned (.tuple #[.agg #[.int .i64 0, .int .i64 0, .int .i64 0, .int .i64 0, .slice none 0 0, .int .i64 0, .int .i64 0, .int .i64 0, .slice none 0 0], .agg #[.bool false, .int .i64 0, .slice none 0 0], .int .i64 3]) ∧ Below w.heap.size w w' := by
  obtain ⟨A, c, he, h1⟩ := h
  dsimp only at he h1
  subst he
  have hl := (h1.all_ hS).len_le
  have hlc : l.length ≤ c := (h1.all_ hS).len_cap
  have HSS := Lib.hid hS; clear hS
  go_enter Try.func23, Try.ntmps23
  go_upto_region 1 with fail
  refine name_wp fun W0 hW0 => ?_
  have bx : Box W0 w.heap.size #[.bool fi, .int .i64 cp, .slice A l.length c] 28 := hW0 ▸ ((Box.at' _ _ rfl).alloc _).alloc _
  have b4 : Box W0 (w.heap.size + 1) #[.int .i64 0, .int .i64 0, .int .i64 0, .int .i64 0, .slice none 0 0, .int .i64 0, .int .i64 0, .int .i64 0, .slice none 0 0] 48 := hW0 ▸ (Box.at' _ _ (by simp)).alloc _
  have b5 : Box W0 (w.heap.size + 1 + 1) #[.bool false, .int .i64 0, .slice none 0 0] 28 := hW0 ▸ Box.at' _ _ (by simp)
  have hB : Below w.heap.size w W0 := hW0 ▸ (((Below.refl _ _).alloc (Nat.le_refl _) _).alloc (by simp) _).alloc (by simp; omega) _
  clear hW0
  have hbl := bx.lt
  obtain ⟨d0, d1, d2⟩ := three_cells bx
  obtain ⟨c0, c1, c2, c3, c4, c5, c6, c7, c8⟩ := nine_cells b4
  obtain ⟨g0, g1, g2, g3, g4, g5, g6, g7, g8⟩ := nine_free b4
  obtain ⟨z0, z1, z2⟩ := three_cells b5
  have zf0 := three_free b5 0
  have zf1 := three_free b5 1
  have zf2 := three_free b5 2
  have h4l := b4.lt; have h5l := b5.lt
  clear h1
  go_wp2_with fail

  refine bodyPost_ret (v := .tuple #[.agg #[.int .i64 0, .int .i64 0, .int .i64 0, .int .i64 0, .slice none 0 0, .int .i64 0, .int .i64 0, .int .i64 0, .slice none 0 0], .agg #[.bool false, .int .i64 0, .slice none 0 0], .int .i64 3]) (by simp [results, Try.results23, go_sem, c0, c1, c2, c3, c4, c5, c6, c7, c8, z0, z1, z2]) rfl ⟨rfl, ?_⟩
  exact (((nine_below hB (by omega)).setCell (by simp; omega) _).setCell (by simp; omega) _).setCell (by simp; omega) _

set_option maxRecDepth 100000 in
set_option maxHeartbeats 1000000 in
theorem ratake_high (v : Value) (fi : Bool) (cp : Int) (l : List Fr) (i : Int) (w : World) (S : Nat → Prop) (hS : ∀ b, S b → b < w.heap.size) (h : LaOn w S v ⟨fi, cp, l⟩) (hi : ¬ i < 0) (hge : (l.length : Int) ≤ i) : Calls Try.prog 23 #[v, .int .i64 i] w
    fun y w' => y = .returned (.tuple #[.agg #[.int .i64 0, .int .i64 0, .int .i64 0, .int .i64 0, .slice none 0 0, .int .i64 0, .int .i64 0, .int .i64 0, .slice none 0 0], .agg #[.bool false, .int .i64 0, .slice none 0 0], .int .i64 3]) ∧ Below w.heap.size w w' := by
  obtain ⟨A, c, he, h1⟩ := h
  dsimp only at he h1
  subst he
  have hl := (h1.all_ hS).len_le
  have hlc : l.length ≤ c := (h1.all_ hS).len_cap
  have HSS := Lib.hid hS; clear hS
  go_enter Try.func23, Try.ntmps23
  go_upto_region 1 with fail
  refine name_wp fun W0 hW0 => ?_
  have bx : Box W0 w.heap.size #[.bool fi, .int .i64 cp, .slice A l.length c] 28 := hW0 ▸ ((Box.at' _ _ rfl).alloc _).alloc _
  have b4 : Box W0 (w.heap.size + 1) #[.int .i64 0, .int .i64 0, .int .i64 0, .int .i64 0, .slice none 0 0, .int .i64 0, .int .i64 0, .int .i64 0, .slice none 0 0] 48 := hW0 ▸ (Box.at' _ _ (by simp)).alloc _
  have b5 : Box W0 (w.heap.size + 1 + 1) #[.bool false, .int .i64 0, .slice none 0 0] 28 := hW0 ▸ Box.at' _ _ (by simp)
  have hB : Below w.heap.size w W0 := hW0 ▸ (((Below.refl _ _).alloc (Nat.le_refl _) _).alloc (by simp) _).alloc (by simp; omega) _
  clear hW0
  have hbl := bx.lt
  obtain ⟨d0, d1, d2⟩ := three_cells bx
  obtain ⟨c0, c1, c2, c3, c4, c5, c6, c7, c8⟩ := nine_cells b4
  obtain ⟨g0, g1, g2, g3, g4, g5, g6, g7, g8⟩ := nine_free b4
  obtain ⟨z0, z1, z2⟩ := three_cells b5
  have zf0 := three_free b5 0
  have zf1 := three_free b5 1
  have zf2 := three_free b5 2
  have h4l := b4.lt; have h5l := b5.lt
  clear h1
  have hi2 : i ≥ (l.length : Int) := by omega
  go_wp2_with fail

  refine bodyPost_ret (v := .tuple #[.agg #[.int .i64 0, .int .i64 0, .int .i64 0, .int .i64 0, .slice none 0 0, .int .i64 0, .int .i64 0, .int .i64 0, .slice none 0 0], .agg #[.bool false, .int .i64 0, .slice none 0 0], .int .i64 3]) (by simp [results, Try.results23, go_sem, c0, c1, c2, c3, c4, c5, c6, c7, c8, z0, z1, z2]) rfl ⟨rfl, ?_⟩
  exact (((nine_below hB (by omega)).setCell (by simp; omega) _).setCell (by simp; omega) _).setCell (by simp; omega) _

set_option maxRecDepth 100000 in
set_option maxHeartbeats 1000000 in
theorem ratake_fifo (v : Value) (cp : Int) (l : List Fr) (i : Int) (w : World) (S : Nat → Prop) (hS : ∀ b, S b → b < w.heap.size) (h : LaOn w S v ⟨true, cp, l⟩) (hi : ¬ i < 0) (hlt : i < (l.length : Int)) (h0 : i > 0) : Calls Try.prog 23 #[v, .int .i64 i] w
    fun y w' => y = .returned (.tuple #[.agg #[.int .i64 0, .int .i64 0, .int .i64 0, .int .i64 0, .slice none 0 0, .int .i64 0, .int .i64 0, .int .i64 0, .slice none 0 0], .agg #[.bool false, .int .i64 0, .slice none 0 0], .int .i64 3]) ∧ Below w.heap.size w w' := by
  obtain ⟨A, c, he, h1⟩ := h
  dsimp only at he h1
  subst he
  have hl := (h1.all_ hS).len_le
  have hlc : l.length ≤ c := (h1.all_ hS).len_cap
  have HSS := Lib.hid hS; clear hS
  go_enter Try.func23, Try.ntmps23
  go_upto_region 1 with fail
  refine name_wp fun W0 hW0 => ?_
  have bx : Box W0 w.heap.size #[.bool true, .int .i64 cp, .slice A l.length c] 28 := hW0 ▸ ((Box.at' _ _ rfl).alloc _).alloc _
  have b4 : Box W0 (w.heap.size + 1) #[.int .i64 0, .int .i64 0, .int .i64 0, .int .i64 0, .slice none 0 0, .int .i64 0, .int .i64 0, .int .i64 0, .slice none 0 0] 48 := hW0 ▸ (Box.at' _ _ (by simp)).alloc _
  have b5 : Box W0 (w.heap.size + 1 + 1) #[.bool false, .int .i64 0, .slice none 0 0] 28 := hW0 ▸ Box.at' _ _ (by simp)
  have hB : Below w.heap.size w W0 := hW0 ▸ (((Below.refl _ _).alloc (Nat.le_refl _) _).alloc (by simp) _).alloc (by simp; omega) _
  clear hW0
  have hbl := bx.lt
  obtain ⟨d0, d1, d2⟩ := three_cells bx
  obtain ⟨c0, c1, c2, c3, c4, c5, c6, c7, c8⟩ := nine_cells b4
  obtain ⟨g0, g1, g2, g3, g4, g5, g6, g7, g8⟩ := nine_free b4
  obtain ⟨z0, z1, z2⟩ := three_cells b5
  have zf0 := three_free b5 0
  have zf1 := three_free b5 1
  have zf2 := three_free b5 2
  have h4l := b4.lt; have h5l := b5.lt
  clear h1
  have hi2 : ¬ i ≥ (l.length : Int) := by omega
  go_wp2_with fail

  refine bodyPost_ret (v := .tuple #[.agg #[.int .i64 0, .int .i64 0, .int .i64 0, .int .i64 0, .slice none 0 0, .int .i64 0, .int .i64 0, .int .i64 0, .slice none 0 0], .agg #[.bool false, .int .i64 0, .slice none 0 0], .int .i64 3]) (by simp [results, Try.results23, go_sem, c0, c1, c2, c3, c4, c5, c6, c7, c8, z0, z1, z2]) rfl ⟨rfl, ?_⟩
  exact (((nine_below hB (by omega)).setCell (by simp; omega) _).setCell (by simp; omega) _).setCell (by simp; omega) _

set_option maxRecDepth 100000 in
set_option maxHeartbeats 1000000 in
theorem ratake_yes (v : Value) (fi : Bool) (cp : Int) (l : List Fr) (i : Nat) (w : World) (S : Nat → Prop) (hS : ∀ b, S b → b < w.heap.size) (h : LaOn w S v ⟨fi, cp, l⟩) (hn : l.length ≤ 1000000) (hlt : i < l.length) (hf : fi = true → i = 0) : Calls Try.prog 23 #[v, .int .i64 i] w
    fun y w' => (∃ p u, y = .returned (.tuple #[p, u, .int .i64 0]) ∧ FrOn false w' S p (l.getD i Fr.zero) ∧ LaOn w' (also S w.heap.size w'.heap.size) u (La.less ⟨fi, cp, l⟩ i)) ∧ Below w.heap.size w w' := by
  obtain ⟨A, c, he, h1⟩ := h
  dsimp only at he h1
  subst he
  have hl := (h1.all_ hS).len_le
  have hlc : l.length ≤ c := (h1.all_ hS).len_cap
  have HSS := Lib.hid hS; clear hS
  go_enter Try.func23, Try.ntmps23
  go_upto_region 1 with fail
  refine name_wp fun W0 hW0 => ?_
  have bx : Box W0 w.heap.size #[.bool fi, .int .i64 cp, .slice A l.length c] 28 := hW0 ▸ ((Box.at' _ _ rfl).alloc _).alloc _
  have b4 : Box W0 (w.heap.size + 1) #[.int .i64 0, .int .i64 0, .int .i64 0, .int .i64 0, .slice none 0 0, .int .i64 0, .int .i64 0, .int .i64 0, .slice none 0 0] 48 := hW0 ▸ (Box.at' _ _ (by simp)).alloc _
  have b5 : Box W0 (w.heap.size + 1 + 1) #[.bool false, .int .i64 0, .slice none 0 0] 28 := hW0 ▸ Box.at' _ _ (by simp)
  have hB : Below w.heap.size w W0 := hW0 ▸ (((Below.refl _ _).alloc (Nat.le_refl _) _).alloc (by simp) _).alloc (by simp; omega) _
  clear hW0
  have hbl := bx.lt
  have hi0 : ¬ ((i : Int) < 0) := by omega
  have hi1 : ¬ ((i : Int) ≥ (l.length : Int)) := by omega
  have hi2 : (i : Int) ≤ (c : Int) := by omega
  have hi3 : (i : Int) + 1 ≤ (l.length : Int) := by omega
  have hi4 : ((i : Int) + 1).toNat = i + 1 := by omega
  have hi5 : (0 : Int) ≤ (i : Int) + 1 := by omega
  have h4l := b4.lt; have h5l := b5.lt
  have HB := Lib.hid hB; clear hB
  obtain ⟨d0, d1, d2⟩ := three_cells bx
  go_cut [24] (fun u wx => u = .bool false ∧ wx = W0)
  case first =>
    cases fi with
    | false =>
      by_cases q : ((i : Int) > 0)
      · have q4 : decide (0 < i) = true := by simpa using q
        have Q4 := Lib.hid q4; clear hf q4
        go_wp2_with fail
        go_meet
        exact ⟨by first | rfl | rw [Q4.out], rfl⟩
      · have q4 : decide (0 < i) = false := by simpa using q
        have Q4 := Lib.hid q4; clear hf q4
        go_wp2_with fail
        go_meet
        exact ⟨by first | rfl | rw [Q4.out], rfl⟩
    | true =>
      have q : ¬ ((i : Int) > 0) := by have := hf rfl; omega
      have q3 : decide (0 < i) = false := by simpa using hf rfl
      have Q3 := Lib.hid q3
      clear hf q3
      go_wp2_with fail
      go_meet
      exact ⟨by first | rfl | rw [Q3.out], rfl⟩
  case rest =>
    obtain ⟨rfl, rfl⟩ := hcut
    obtain ⟨W, rfl⟩ : ∃ W : World, W = wc := ⟨_, rfl⟩
    clear d0 d1 d2
    go_upto_region 3 with fail
    obtain ⟨x, hx⟩ := Pc.get_at hlt
    have hs := h1.keep (fun b q => HB.out.block b (HSS.out b q))
    obtain ⟨g, o, pA, pB, pk, pl, he, hgs, hc, hp⟩ := hs.arr.frame hx
    subst he
    have hgp : g < w.heap.size := HSS.out g hgs
    clear hgs
    have HX := Lib.hid hx; have HP := Lib.hid hp; have HC := Lib.hid hc; clear hx h1 hp hc
    go_cut [7] (fun u wx => Outs 48 28 W S fi cp (l.take i) u wx)
    case first =>
      have hhi : ∀ b, S b → b < W.heap.size := fun b q => Nat.lt_of_lt_of_le (HSS.out b q) (by omega)
      have HHI := Lib.hid hhi; clear hhi
      have hV := (Below.refl W.heap.size W).drew
      have hsd := hs.keep (fun b q => hV.block b (HHI.out b q))
      have bxd := bx.next hV
      refine region_go 512 (by kernel_rfl) ?_
      obtain ⟨d0, d1, d2⟩ := three_cells bxd
      refine wpAny_go 512 0 [5, 6, 7, 8] 480 9 (by kernel_rfl) (by kernel_rfl) (fun _ _ _ _ _ h => h) (by kernel_rfl) (by rfl) (by rfl) (by kernel_rfl) ?_
      simp only [List.map_cons, List.map_nil, List.getD_cons_succ, List.getD_cons_zero]
      go_wp2_with fail
      change wpAnyM _ _ _ _ _ _ _ _ _ _
      refine wpAny_reads 512 480 [0, 1, 2, 3] 495 5 (by kernel_rfl) (by kernel_rfl) (fun _ _ _ _ _ h => h) (by kernel_rfl) (by rfl) (by rfl) (by kernel_rfl) ?_
      simp only [List.map_cons, List.map_nil, List.getD_cons_succ, List.getD_cons_zero]
      go_wp2_with fail
      change _ → wpAnyM _ _ _ _ _ _ _ _ _ _; intro _
      clear d0 d1 d2
      clear bxd
      refine name_any fun y0 hy => ?_
      have s0 : W.heap.size ≤ y0.heap.size := by rw [← hy]; simp
      rw [hy] at hsd hV
      clear hy
      refine wpAny_twoM 4 11 511 2543 (by kernel_rfl) (by kernel_rfl) (of_decide_eq_true (by kernel_rfl)) (of_decide_eq_true (by kernel_rfl)) (by rfl) (by rfl) ?_ ?_
      ·
        simp only [List.getD_cons_succ, List.getD_cons_zero]
        go_wp2_with fail
        refine ⟨fun h => absurd h (by decide), name_any fun y1 hw => ?_⟩
        have hr : RowH Rep.frame 48 S W.heap.size y1 (some y0.heap.size) (.slice (some ⟨y0.heap.size, 0, none⟩) 0 0) [] := (hw ▸ RowH.empty _ _ _ _ : RowH Rep.frame 48 S y0.heap.size y1 _ _ _).base s0
        have hh : Below y0.heap.size y0 y1 := hw ▸ (Below.refl _ _).alloc (Nat.le_refl _) _
        have z1 : y0.heap.size < y1.heap.size := hw ▸ (by simp)
        clear hw
        replace hsd := hsd.keep (fun b q => hh.block b (Nat.lt_of_lt_of_le (HHI.out b q) s0))
        replace hV := hV.trans (hh.mono s0)
        have s1 := Nat.le_trans s0 hh.size
        clear hh
        refine wpAny_twoM 9 11 1023 2559 (by kernel_rfl) (by kernel_rfl) (of_decide_eq_true (by kernel_rfl)) (of_decide_eq_true (by kernel_rfl)) (by rfl) (by rfl) ?_ ?_
        ·
          simp only [List.getD_cons_succ, List.getD_cons_zero]
          refine wpList_rowHS (r := Rep.frame) rfl (.tmp 31) (.tmp 35) 26 rfl W.heap.size 48 Try.infoRFrame Try.underlying26 rfl (by omega) _ _ rfl hr HHI.out s1 rfl (hsd.head_ (k := i) (Nat.le_of_lt hlt)) (by simp only [List.length_nil, List.length_take]; omega) ?_
          intro v y2 nb hr2 hgr hh hap
          rw [List.nil_append] at hr2
          clear hr
          have hr := hr2; clear hr2
          obtain ⟨VA, vc, e0⟩ := hr.form
          obtain ⟨vn, hvn⟩ : ∃ n, (l.take i).length = n := ⟨_, rfl⟩
          rw [hvn] at e0; subst e0; clear hvn
          clear hgr hap
          replace hsd := hsd.keep (fun b q => hh.block b (HHI.out b q))
          replace hV := hV.trans hh
          have s2 := Nat.le_trans s1 hh.size
          clear hh
          go_wp2_with fail
          refine ⟨fun _ => Ext.below (below_drewL hV) (Nat.le_refl _), ?_⟩
          refine wpAny_go 512 1023 [10] 2047 2 (by kernel_rfl) (by kernel_rfl) (fun _ _ _ _ _ h => h) (by kernel_rfl) (by rfl) (by rfl) (by kernel_rfl) ?_
          simp only [List.map_cons, List.map_nil, List.getD_cons_succ, List.getD_cons_zero]
          go_wp2_with fail
          change wpAnyM _ _ _ _ _ _ _ _ _ _
          refine wpAny_oneM 11 4095 (by kernel_rfl) (by kernel_rfl) (of_decide_eq_true (by kernel_rfl)) (by rfl) ?_
          simp only [List.getD_cons_succ, List.getD_cons_zero]
          have hne : nb ≠ some y2.heap.size := fun e => absurd (hr.lt e).2 (Nat.lt_irrefl _)
          go_wp2_with fail
          refine ⟨fun h => absurd h (by decide), name_any fun y3 hw => ?_⟩
          have hg : Box y3 y2.heap.size #[.bool false, .int .i64 0, .slice none 0 0] 28 := hw ▸ Box.new _ _ _
          have hh : Below y2.heap.size y2 y3 := hw ▸ (Below.refl _ _).alloc (Nat.le_refl _) _
          have z3 : y2.heap.size < y3.heap.size := hw ▸ (by simp)
          clear hw
          replace hr := hr.next hh (fun b q => Nat.lt_of_lt_of_le (HHI.out b q) s2)
          replace hsd := hsd.keep (fun b q => hh.block b (Nat.lt_of_lt_of_le (HHI.out b q) s2))
          replace hV := hV.trans (hh.mono s2)
          have s3 := Nat.le_trans s2 hh.size
          clear hh
          obtain ⟨d0, d1, d2⟩ := three_cells hg
          have df0 := three_free hg 0
          have df1 := three_free hg 1
          have df2 := three_free hg 2
          have hgl := hg.lt
          refine wpAny_go 512 4095 [12] 8191 0 (by kernel_rfl) (by kernel_rfl) (fun _ _ _ _ _ h => h) (by kernel_rfl) (by rfl) (by rfl) (by kernel_rfl) ?_
          simp only [List.map_cons, List.map_nil, List.getD_cons_succ, List.getD_cons_zero]
          go_wp2_with fail
          change wpAnyM _ _ _ _ _ _ _ _ _ _
          clear d0 d1 d2
          clear df0 df1 df2
          refine wpAny_endM (by kernel_rfl) (by kernel_rfl) ?_
          go_wp2_with fail
          go_meet
          exact Outs.mk_ hg hr s2 hne HHI.out hV
        ·
          simp only [List.getD_cons_succ, List.getD_cons_zero]
          go_wp2_with fail
          refine ⟨fun h => absurd h (by decide), name_any fun y2 hw => ?_⟩
          have hg : Box y2 y1.heap.size #[.bool false, .int .i64 0, .slice none 0 0] 28 := hw ▸ Box.new _ _ _
          have hh : Below y1.heap.size y1 y2 := hw ▸ (Below.refl _ _).alloc (Nat.le_refl _) _
          have z2 : y1.heap.size < y2.heap.size := hw ▸ (by simp)
          clear hw
          replace hr := hr.next hh (fun b q => Nat.lt_of_lt_of_le (HHI.out b q) s1)
          replace hsd := hsd.keep (fun b q => hh.block b (Nat.lt_of_lt_of_le (HHI.out b q) s1))
          replace hV := hV.trans (hh.mono s1)
          have s2 := Nat.le_trans s1 hh.size
          clear hh
          refine wpAny_oneM 9 3071 (by kernel_rfl) (by kernel_rfl) (of_decide_eq_true (by kernel_rfl)) (by rfl) ?_
          simp only [List.getD_cons_succ, List.getD_cons_zero]
          refine wpList_rowHS (r := Rep.frame) rfl (.tmp 31) (.tmp 35) 26 rfl W.heap.size 48 Try.infoRFrame Try.underlying26 rfl (by omega) _ _ rfl hr HHI.out s2 rfl (hsd.head_ (k := i) (Nat.le_of_lt hlt)) (by simp only [List.length_nil, List.length_take]; omega) ?_
          intro v y3 nb hr2 hgr hh hap
          rw [List.nil_append] at hr2
          clear hr
          have hr := hr2; clear hr2
          obtain ⟨VA, vc, e0⟩ := hr.form
          obtain ⟨vn, hvn⟩ : ∃ n, (l.take i).length = n := ⟨_, rfl⟩
          rw [hvn] at e0; subst e0; clear hvn
          have hne : nb ≠ some y1.heap.size := by
            have q := hg.lt
            rcases hap with rfl | ⟨q2, rfl, hq⟩
            · intro e; injection e; omega
            · intro e; injection e; omega
          replace hg : Box y3 y1.heap.size #[.bool false, .int .i64 0, .slice none 0 0] 28 := (hgr.block _ hg.lt (by intro e; injection e; omega)).trans hg
          clear hgr hap
          replace hsd := hsd.keep (fun b q => hh.block b (HHI.out b q))
          replace hV := hV.trans hh
          have s3 := Nat.le_trans s2 hh.size
          clear hh
          go_wp2_with fail
          refine ⟨fun _ => Ext.below (below_drewL hV) (Nat.le_refl _), ?_⟩
          obtain ⟨d0, d1, d2⟩ := three_cells hg
          have df0 := three_free hg 0
          have df1 := three_free hg 1
          have df2 := three_free hg 2
          have hgl := hg.lt
          refine wpAny_go 512 3071 [10, 12] 8191 0 (by kernel_rfl) (by kernel_rfl) (fun _ _ _ _ _ h => h) (by kernel_rfl) (by rfl) (by rfl) (by kernel_rfl) ?_
          simp only [List.map_cons, List.map_nil, List.getD_cons_succ, List.getD_cons_zero]
          go_wp2_with fail
          change wpAnyM _ _ _ _ _ _ _ _ _ _
          clear d0 d1 d2
          clear df0 df1 df2
          refine wpAny_endM (by kernel_rfl) (by kernel_rfl) ?_
          go_wp2_with fail
          go_meet
          exact Outs.mk_ hg hr s1 hne HHI.out hV
      ·
        simp only [List.getD_cons_succ, List.getD_cons_zero]
        go_wp2_with fail
        refine ⟨fun h => absurd h (by decide), name_any fun y1 hw => ?_⟩
        have hg : Box y1 y0.heap.size #[.bool false, .int .i64 0, .slice none 0 0] 28 := hw ▸ Box.new _ _ _
        have hh : Below y0.heap.size y0 y1 := hw ▸ (Below.refl _ _).alloc (Nat.le_refl _) _
        have z1 : y0.heap.size < y1.heap.size := hw ▸ (by simp)
        clear hw
        replace hsd := hsd.keep (fun b q => hh.block b (Nat.lt_of_lt_of_le (HHI.out b q) s0))
        replace hV := hV.trans (hh.mono s0)
        have s1 := Nat.le_trans s0 hh.size
        clear hh
        refine wpAny_oneM 4 2559 (by kernel_rfl) (by kernel_rfl) (of_decide_eq_true (by kernel_rfl)) (by rfl) ?_
        simp only [List.getD_cons_succ, List.getD_cons_zero]
        go_wp2_with fail
        refine ⟨fun h => absurd h (by decide), name_any fun y2 hw => ?_⟩
        have hr : RowH Rep.frame 48 S W.heap.size y2 (some y1.heap.size) (.slice (some ⟨y1.heap.size, 0, none⟩) 0 0) [] := (hw ▸ RowH.empty _ _ _ _ : RowH Rep.frame 48 S y1.heap.size y2 _ _ _).base s1
        have hh : Below y1.heap.size y1 y2 := hw ▸ (Below.refl _ _).alloc (Nat.le_refl _) _
        have z2 : y1.heap.size < y2.heap.size := hw ▸ (by simp)
        clear hw
        replace hg := hg.next hh
        replace hsd := hsd.keep (fun b q => hh.block b (Nat.lt_of_lt_of_le (HHI.out b q) s1))
        replace hV := hV.trans (hh.mono s1)
        have s2 := Nat.le_trans s1 hh.size
        clear hh
        refine wpAny_oneM 9 3071 (by kernel_rfl) (by kernel_rfl) (of_decide_eq_true (by kernel_rfl)) (by rfl) ?_
        simp only [List.getD_cons_succ, List.getD_cons_zero]
        refine wpList_rowHS (r := Rep.frame) rfl (.tmp 31) (.tmp 35) 26 rfl W.heap.size 48 Try.infoRFrame Try.underlying26 rfl (by omega) _ _ rfl hr HHI.out s2 rfl (hsd.head_ (k := i) (Nat.le_of_lt hlt)) (by simp only [List.length_nil, List.length_take]; omega) ?_
        intro v y3 nb hr2 hgr hh hap
        rw [List.nil_append] at hr2
        clear hr
        have hr := hr2; clear hr2
        obtain ⟨VA, vc, e0⟩ := hr.form
        obtain ⟨vn, hvn⟩ : ∃ n, (l.take i).length = n := ⟨_, rfl⟩
        rw [hvn] at e0; subst e0; clear hvn
        have hne : nb ≠ some y0.heap.size := by
          have q := hg.lt
          rcases hap with rfl | ⟨q2, rfl, hq⟩
          · intro e; injection e; omega
          · intro e; injection e; omega
        replace hg : Box y3 y0.heap.size #[.bool false, .int .i64 0, .slice none 0 0] 28 := (hgr.block _ hg.lt (by intro e; injection e; omega)).trans hg
        clear hgr hap
        replace hsd := hsd.keep (fun b q => hh.block b (HHI.out b q))
        replace hV := hV.trans hh
        have s3 := Nat.le_trans s2 hh.size
        clear hh
        go_wp2_with fail
        refine ⟨fun _ => Ext.below (below_drewL hV) (Nat.le_refl _), ?_⟩
        obtain ⟨d0, d1, d2⟩ := three_cells hg
        have df0 := three_free hg 0
        have df1 := three_free hg 1
        have df2 := three_free hg 2
        have hgl := hg.lt
        refine wpAny_go 512 3071 [10, 12] 8191 0 (by kernel_rfl) (by kernel_rfl) (fun _ _ _ _ _ h => h) (by kernel_rfl) (by rfl) (by rfl) (by kernel_rfl) ?_
        simp only [List.map_cons, List.map_nil, List.getD_cons_succ, List.getD_cons_zero]
        go_wp2_with fail
        change wpAnyM _ _ _ _ _ _ _ _ _ _
        clear d0 d1 d2
        clear df0 df1 df2
        refine wpAny_endM (by kernel_rfl) (by kernel_rfl) ?_
        go_wp2_with fail
        go_meet
        exact Outs.mk_ hg hr s0 hne HHI.out hV
    case rest =>
      obtain ⟨ob, b, v1, rfl, bo, hr, hne, hob, hV⟩ := hcut
      obtain ⟨W2, rfl⟩ : ∃ x : World, x = wc := ⟨_, rfl⟩
      have HN4 := Lib.hid (show ob ≠ w.heap.size + 1 by omega)
      obtain ⟨VA, vc, e0⟩ := hr.form
      obtain ⟨vn, hvn⟩ : ∃ n, (l.take i).length = n := ⟨_, rfl⟩
      rw [hvn] at e0; subst e0; clear hvn
      replace hs := hs.keep (fun b q => (hV.mono HB.out.size).block b (HSS.out b q))
      replace bx := bx.next hV; replace b4 := b4.next hV; replace b5 := b5.next hV
      have HHI : Hid (∀ b, S b → b < W.heap.size) := Lib.hid (fun b q => Nat.lt_of_lt_of_le (HSS.out b q) HB.out.size)
      have HVW := Lib.hid hV; have HNE := Lib.hid hne; clear hV hne
      have hrd := hr.next ((Below.refl W2.heap.size W2).drew) (fun b q => Nat.lt_of_lt_of_le (HHI.out b q) HVW.out.size)
      have bxd := bx.next ((Below.refl _ _).drew)
      have bod := bo.next ((Below.refl _ _).drew)
      have hsd := hs.keep (fun b q => (Below.refl W2.heap.size W2).drew.block b (Nat.lt_of_lt_of_le (HHI.out b q) HVW.out.size))
      clear hr
      obtain ⟨AV, hAV⟩ : ∃ AV, AV = (if c = i + 1 then (some ⟨g, o, none⟩ : Option Addr) else some ⟨g, o + (i + 1) * 9, none⟩) := ⟨_, rfl⟩
      have hs2 : SliceOn Rep.frame false W2.drew S (.slice AV (l.length - (i + 1)) (c - (i + 1))) (l.drop (i + 1)) := by rw [hAV]; exact hsd.tail_ (k := i + 1) hlt
      have HR2 := Lib.hid hrd; have HS2 := Lib.hid hs2; have HAV := Lib.hid hAV; have HS := Lib.hid hs; clear hrd hs2 hsd hAV hs
      obtain ⟨d0, d1, d2⟩ := three_cells bxd
      obtain ⟨k0, k1, k2⟩ := three_cells bod
      have hol2 : ob < W2.heap.size := bo.lt
      go_upto_region 4 with fail
      refine region_go 0 (by kernel_rfl) ?_
      refine wpAny_go 0 0 [4] 16 9 (by kernel_rfl) (by kernel_rfl) (fun _ _ _ _ _ h => h) (by kernel_rfl) (by rfl) (by rfl) (by kernel_rfl) ?_
      simp only [List.map_cons, List.map_nil, List.getD_cons_succ, List.getD_cons_zero]
      go_wp2_with fail
      change wpAnyM _ _ _ _ _ _ _ _ _ _
      refine wpAny_takeM 5 rfl (by kernel_rfl) (by rfl : 16 ||| 2 ^ 5 = 48) (by kernel_rfl) (by kernel_rfl) (by kernel_rfl) (by kernel_rfl) (fun _ _ _ h => h) (.inl ⟨by rfl, fun w => by (go_simp; try with_reducible rfl)⟩) ?_
      refine wpAny_go 0 48 [0, 1, 2, 3] 63 4 (by kernel_rfl) (by kernel_rfl) (fun _ _ _ _ _ h => h) (by kernel_rfl) (by rfl) (by rfl) (by kernel_rfl) ?_
      simp only [List.map_cons, List.map_nil, List.getD_cons_succ, List.getD_cons_zero]
      go_wp2_with fail
      change wpAnyM _ _ _ _ _ _ _ _ _ _
      refine wpAny_go 0 63 [6] 127 3 (by kernel_rfl) (by kernel_rfl) (fun _ _ _ _ _ h => h) (by kernel_rfl) (by rfl) (by rfl) (by kernel_rfl) ?_
      simp only [List.map_cons, List.map_nil, List.getD_cons_succ, List.getD_cons_zero]
      go_wp2_with (refine wpList_tailS rfl (.tmp 41) (.tmp 43) 26 48 rfl Try.underlying26 9 (by kernel_rfl) g o l.length c (i + 1) _ rfl rfl (by simp) hlt ?_; intro AV2 hAV2; rw [← HAV.out] at hAV2; subst hAV2)
      change wpAnyM _ _ _ _ _ _ _ _ _ _
      clear d0 d1 d2
      clear k0 k1 k2
      refine wpAny_oneM 7 255 (by kernel_rfl) (by kernel_rfl) (of_decide_eq_true (by kernel_rfl)) (by rfl) ?_
      simp only [List.getD_cons_succ, List.getD_cons_zero]
      refine wpList_rowHS (r := Rep.frame) rfl (.tmp 39) (.tmp 44) 26 rfl W.heap.size 48 Try.infoRFrame Try.underlying26 rfl (by omega) _ _ rfl HR2.out HHI.out HVW.out.size rfl HS2.out (by simp; omega) ?_
      intro v3 w3 nb hr3 hgr hh hap
      obtain ⟨NA, nc, e0⟩ := hr3.form
      obtain ⟨n, hn0⟩ : ∃ n, (l.take i ++ l.drop (i + 1)).length = n := ⟨_, rfl⟩
      rw [hn0] at e0; subst e0; clear hn0
      have bo3 := (hgr.block ob bod.lt (fun e => HNE.out e.symm)).trans bod
      clear hgr bod bxd
      have HR3 := Lib.hid hr3; have HH := Lib.hid hh; have HAP := Lib.hid hap; clear hr3 hh hap
      go_wp2_with fail
      change wpAnyM _ _ _ _ _ _ _ _ _ _
      obtain ⟨d0, d1, d2⟩ := three_cells bo3
      have df0 := three_free bo3 0
      have df1 := three_free bo3 1
      have df2 := three_free bo3 2
      have hol3 := lt_of_block bo3
      refine wpAny_go 0 255 [8, 9] 1023 0 (by kernel_rfl) (by kernel_rfl) (fun _ _ _ _ _ h => h) (by kernel_rfl) (by rfl) (by rfl) (by kernel_rfl) ?_
      simp only [List.map_cons, List.map_nil, List.getD_cons_succ, List.getD_cons_zero]
      go_wp2_with fail
      change wpAnyM _ _ _ _ _ _ _ _ _ _
      clear d0 d1 d2
      clear df0 df1 df2
      refine nameAny fun V hV0 => ?_
      have bo4 : Box V ob #[.bool fi, .int .i64 cp, .slice NA n nc] 28 := by rw [← hV0]; exact blk_set bo3 2 _
      have hk4 : ∀ k, k ≠ ob → V.heap[k]? = w3.heap[k]? := fun k hk => by rw [← hV0]; exact heap_setCell_other _ _ _ _ hk
      have hB2 : Below W.heap.size W2 V := by rw [← hV0]; exact (⟨HH.out.os, HH.out.tape, HH.out.output, HH.out.size, HH.out.block⟩ : Below W.heap.size W2 w3).setCell hob _
      clear hV0
      have hnb : nb ≠ some ob := by
        rcases HAP.out with rfl | ⟨q, rfl, hq⟩
        · exact HNE.out
        · intro e; injection e; have hq2 : W2.heap.size ≤ q := hq; omega
      have hr4 : RowH Rep.frame 48 S W.heap.size V nb (.slice NA n nc) (l.take i ++ l.drop (i + 1)) := HR3.out.keep fun k hk => hk4 k (hk.elim (fun q e => hnb (q.trans (congrArg some e))) (fun q e => by have := HHI.out k q; omega))
      have hnk : ∀ k, (S k ∨ nb = some k) → k ≠ w.heap.size + 1 ∧ k ≠ w.heap.size + 1 + 1 ∧ k < V.heap.size ∧ (S k ∨ w.heap.size ≤ k) := fun k hk => by
        have q1 := hB2.size; have q2 := HB.out.size; have q4 := HVW.out.size
        rcases hk with hk | hk
        · have := HSS.out k hk; exact ⟨by omega, by omega, by omega, .inl hk⟩
        · have q3 := hr4.lt hk; exact ⟨by omega, by omega, by omega, .inr (by omega)⟩
      have hsl := hr4.on
      have bxV : Box V w.heap.size #[.bool fi, .int .i64 cp, .slice (some ⟨g, o, none⟩) l.length c] 28 := (hB2.block _ hbl).trans bx
      have b4V : Box V (w.heap.size + 1) #[.int .i64 0, .int .i64 0, .int .i64 0, .int .i64 0, .slice none 0 0, .int .i64 0, .int .i64 0, .int .i64 0, .slice none 0 0] 48 := (hB2.block _ h4l).trans b4
      have b5V : Box V (w.heap.size + 1 + 1) #[.bool false, .int .i64 0, .slice none 0 0] 28 := (hB2.block _ h5l).trans b5
      have hsV := HS.out.keep (fun b q => hB2.block b (HHI.out b q))
      have HSL := Lib.hid hsl; have HNK := Lib.hid hnk; have HSV := Lib.hid hsV; have HBV := Lib.hid (HB.out.trans ((HVW.out.trans hB2).mono HB.out.size)); clear hsl hnk hsV hB2 hr4 hnb hk4 bo3 bo bx b4 b5 hbl h4l h5l hol2 hol3
      refine wpAny_endM (by kernel_rfl) (by kernel_rfl) ?_
      go_upto_region 5 with fail
      obtain ⟨g9, o9, qA, qB, qk, ql, he9, _, hc9, hp9⟩ := HSV.out.arr.frame HX.out
      injection he9 with he9; injection he9 with e1 e2 _; subst e1 e2
      have c0 := hc9 0 _ rfl
      have c1 := hc9 1 _ rfl
      have c2 := hc9 2 _ rfl
      have c3 := hc9 3 _ rfl
      have c4 := hc9 4 _ rfl
      have c5 := hc9 5 _ rfl
      have c6 := hc9 6 _ rfl
      have c7 := hc9 7 _ rfl
      have c8 := hc9 8 _ rfl
      simp only [Nat.add_zero] at c0
      have HP9 := Lib.hid hp9; clear hp9 hc9
      have bxd := bxV.next ((Below.refl _ _).drew); have bod := bo4.next ((Below.refl _ _).drew); have b4d := b4V.next ((Below.refl _ _).drew); have b5d := b5V.next ((Below.refl _ _).drew)
      obtain ⟨d0, d1, d2⟩ := three_cells bxd
      refine region_go 0 (by kernel_rfl) ?_
      refine wpAny_go 0 0 [0, 1, 2, 3, 4] 31 4 (by kernel_rfl) (by kernel_rfl) (fun _ _ _ _ _ h => h) (by kernel_rfl) (by rfl) (by rfl) (by kernel_rfl) ?_
      simp only [List.map_cons, List.map_nil, List.getD_cons_succ, List.getD_cons_zero]
      go_wp2_with fail
      change wpAnyM _ _ _ _ _ _ _ _ _ _
      clear d0 d1 d2
      clear c0 c1 c2 c3 c4 c5 c6 c7 c8
      clear bxd
      refine name_any fun Y hY => ?_
      have hYV : ∀ k : Nat, Y.heap[k]? = V.heap[k]? := fun k => by rw [← hY]; rfl
      have hYz : Y.heap.size = V.heap.size := by rw [← hY]; rfl
      have hYB : Below w.heap.size w Y := by rw [← hY]; exact HBV.out.drew
      rw [hY] at b4d b5d bod
      clear hY
      have HYV := Lib.hid hYV; have HYZ := Lib.hid hYz; have HYB := Lib.hid hYB; clear hYV hYz hYB
      refine wpAny_twoM 5 6 63 95 (by kernel_rfl) (by kernel_rfl) (of_decide_eq_true (by kernel_rfl)) (of_decide_eq_true (by kernel_rfl)) (by rfl) (by rfl) ?_ ?_
      ·
        simp only [List.getD_cons_succ, List.getD_cons_zero]
        obtain ⟨k0, k1, k2⟩ := three_cells bod
        go_wp2_with fail
        refine ⟨fun h => absurd h (by decide), ?_⟩
        clear k0 k1 k2
        obtain ⟨c0, c1, c2, c3, c4, c5, c6, c7, c8⟩ := nine_cells b4d
        obtain ⟨g0, g1, g2, g3, g4, g5, g6, g7, g8⟩ := nine_free b4d
        have h4l := b4d.lt
        obtain ⟨d0, d1, d2⟩ := three_cells b5d
        have df0 := three_free b5d 0
        have df1 := three_free b5d 1
        have df2 := three_free b5d 2
        have h5l := b5d.lt
        refine wpAny_go 0 63 [6, 7, 8] 511 0 (by kernel_rfl) (by kernel_rfl) (fun _ _ _ _ _ h => h) (by kernel_rfl) (by rfl) (by rfl) (by kernel_rfl) ?_
        simp only [List.map_cons, List.map_nil, List.getD_cons_succ, List.getD_cons_zero]
        go_wp2_with fail
        change wpAnyM _ _ _ _ _ _ _ _ _ _
        clear c0 c1 c2 c3 c4 c5 c6 c7 c8
        clear g0 g1 g2 g3 g4 g5 g6 g7 g8
        clear d0 d1 d2
        clear df0 df1 df2
        refine nameAny fun X hX0 => ?_
        have b4X : Box X (w.heap.size + 1) #[.int .i64 x.kind, .int .i64 x.epoch, .int .i64 x.seq, .int .i64 x.letter, .slice qA x.pieces.length qk, .int .i64 x.init, .int .i64 x.num, .int .i64 x.count, .slice qB x.path.length ql] 48 := by rw [← hX0]; exact (three_other (by omega)).trans (nine_box b4d)
        have b5X : Box X (w.heap.size + 1 + 1) #[.bool fi, .int .i64 cp, .slice NA n nc] 28 := by rw [← hX0]; exact blk_set (blk_set (blk_set ((nine_far (by omega)).trans b5d) 0 _) 1 _) 2 _
        have hkX : ∀ k, k ≠ w.heap.size + 1 → k ≠ w.heap.size + 1 + 1 → X.heap[k]? = V.heap[k]? := fun k k1 k2 => by rw [← hX0]; exact ((three_other k2).trans (nine_far k1)).trans (HYV.out k)
        have hzX : X.heap.size = V.heap.size := by rw [← hX0]; exact (three_size.trans nine_size).trans HYZ.out
        have hBX : Below w.heap.size w X := by rw [← hX0]; exact (((nine_below HYB.out (by omega)).setCell (by simp; omega) _).setCell (by simp; omega) _).setCell (by simp; omega) _
        clear hX0
        obtain ⟨c0, c1, c2, c3, c4, c5, c6, c7, c8⟩ := nine_cells b4X
        obtain ⟨d0, d1, d2⟩ := three_cells b5X
        have hl4 := b4X.lt; have hl5 := b5X.lt
        have HKX := Lib.hid hkX; have HZX := Lib.hid hzX; have HBX := Lib.hid hBX; clear hkX hzX hBX b4d b5d bod
        refine wpAny_endM (by kernel_rfl) (by kernel_rfl) ?_
        go_wp2_with fail
        refine bodyPost_ret (v := .tuple #[.agg #[.int .i64 x.kind, .int .i64 x.epoch, .int .i64 x.seq, .int .i64 x.letter, .slice qA x.pieces.length qk, .int .i64 x.init, .int .i64 x.num, .int .i64 x.count, .slice qB x.path.length ql], .agg #[.bool fi, .int .i64 cp, .slice NA n nc], .int .i64 0]) (by simp [results, Try.results23, go_sem, c0, c1, c2, c3, c4, c5, c6, c7, c8, d0, d1, d2]) rfl ⟨⟨_, _, rfl, ?_, ?_⟩, HBX.out⟩
        · rw [show l.getD i Fr.zero = x from by rw [List.getD_eq_getElem?_getD, HX.out]; rfl]
          exact HP9.out.keep (fun b hb => HKX.out b (by have := HSS.out b hb; omega) (by have := HSS.out b hb; omega))
        · exact lafin (a := La.less ⟨fi, cp, l⟩ i) HSL.out (fun k hk => HKX.out k (HNK.out k hk).1 (HNK.out k hk).2.1) (fun k hk => ⟨by rw [HZX.out]; exact (HNK.out k hk).2.2.1, (HNK.out k hk).2.2.2⟩)
      ·
        simp only [List.getD_cons_succ, List.getD_cons_zero]
        obtain ⟨c0, c1, c2, c3, c4, c5, c6, c7, c8⟩ := nine_cells b4d
        obtain ⟨g0, g1, g2, g3, g4, g5, g6, g7, g8⟩ := nine_free b4d
        have h4l := b4d.lt
        go_wp2_with fail
        refine ⟨fun h => absurd h (by decide), ?_⟩
        clear c0 c1 c2 c3 c4 c5 c6 c7 c8
        clear g0 g1 g2 g3 g4 g5 g6 g7 g8
        refine name_any fun Y2 hY2 => ?_
        have b4e : Box Y2 (w.heap.size + 1) #[.int .i64 x.kind, .int .i64 x.epoch, .int .i64 x.seq, .int .i64 x.letter, .slice qA x.pieces.length qk, .int .i64 x.init, .int .i64 x.num, .int .i64 x.count, .slice qB x.path.length ql] 48 := by rw [← hY2]; exact nine_box b4d
        have b5e : Box Y2 (w.heap.size + 1 + 1) #[.bool false, .int .i64 0, .slice none 0 0] 28 := by rw [← hY2]; exact (nine_far (by omega)).trans b5d
        have boe : Box Y2 ob #[.bool fi, .int .i64 cp, .slice NA n nc] 28 := by rw [← hY2]; exact (nine_far HN4.out).trans bod
        have hk2 : ∀ k : Nat, k ≠ w.heap.size + 1 → Y2.heap[k]? = V.heap[k]? := fun k k1 => by rw [← hY2]; exact (nine_far k1).trans (HYV.out k)
        have hz2 : Y2.heap.size = V.heap.size := by rw [← hY2]; exact nine_size.trans HYZ.out
        have hB2 : Below w.heap.size w Y2 := by rw [← hY2]; exact nine_below HYB.out (by omega)
        clear hY2 b4d b5d bod HYV HYZ HYB h4l
        have HYV := Lib.hid hk2; have HYZ := Lib.hid hz2; have HYB := Lib.hid hB2; clear hk2 hz2 hB2
        have b4d := b4e; have b5d := b5e; have bod := boe; clear b4e b5e boe
        obtain ⟨k0, k1, k2⟩ := three_cells bod
        obtain ⟨d0, d1, d2⟩ := three_cells b5d
        have df0 := three_free b5d 0
        have df1 := three_free b5d 1
        have df2 := three_free b5d 2
        have h5l := b5d.lt
        have hol := bod.lt
        refine wpAny_go 0 95 [5, 7, 8] 511 0 (by kernel_rfl) (by kernel_rfl) (fun _ _ _ _ _ h => h) (by kernel_rfl) (by rfl) (by rfl) (by kernel_rfl) ?_
        simp only [List.map_cons, List.map_nil, List.getD_cons_succ, List.getD_cons_zero]
        go_wp2_with fail
        change wpAnyM _ _ _ _ _ _ _ _ _ _
        clear d0 d1 d2
        clear df0 df1 df2
        clear k0 k1 k2
        refine nameAny fun X hX0 => ?_
        have b4X : Box X (w.heap.size + 1) #[.int .i64 x.kind, .int .i64 x.epoch, .int .i64 x.seq, .int .i64 x.letter, .slice qA x.pieces.length qk, .int .i64 x.init, .int .i64 x.num, .int .i64 x.count, .slice qB x.path.length ql] 48 := by rw [← hX0]; exact (three_other (by omega)).trans b4d
        have b5X : Box X (w.heap.size + 1 + 1) #[.bool fi, .int .i64 cp, .slice NA n nc] 28 := by rw [← hX0]; exact blk_set (blk_set (blk_set b5d 0 _) 1 _) 2 _
        have hkX : ∀ k, k ≠ w.heap.size + 1 → k ≠ w.heap.size + 1 + 1 → X.heap[k]? = V.heap[k]? := fun k k1 k2 => by rw [← hX0]; exact ((three_other k2).trans (HYV.out k k1))
        have hzX : X.heap.size = V.heap.size := by rw [← hX0]; exact three_size.trans HYZ.out
        have hBX : Below w.heap.size w X := by rw [← hX0]; exact ((HYB.out.setCell (by simp; omega) _).setCell (by simp; omega) _).setCell (by simp; omega) _
        clear hX0
        obtain ⟨c0, c1, c2, c3, c4, c5, c6, c7, c8⟩ := nine_cells b4X
        obtain ⟨d0, d1, d2⟩ := three_cells b5X
        have hl4 := b4X.lt; have hl5 := b5X.lt
        have HKX := Lib.hid hkX; have HZX := Lib.hid hzX; have HBX := Lib.hid hBX; clear hkX hzX hBX b4d b5d bod
        refine wpAny_endM (by kernel_rfl) (by kernel_rfl) ?_
        go_wp2_with fail
        refine bodyPost_ret (v := .tuple #[.agg #[.int .i64 x.kind, .int .i64 x.epoch, .int .i64 x.seq, .int .i64 x.letter, .slice qA x.pieces.length qk, .int .i64 x.init, .int .i64 x.num, .int .i64 x.count, .slice qB x.path.length ql], .agg #[.bool fi, .int .i64 cp, .slice NA n nc], .int .i64 0]) (by simp [results, Try.results23, go_sem, c0, c1, c2, c3, c4, c5, c6, c7, c8, d0, d1, d2]) rfl ⟨⟨_, _, rfl, ?_, ?_⟩, HBX.out⟩
        · rw [show l.getD i Fr.zero = x from by rw [List.getD_eq_getElem?_getD, HX.out]; rfl]
          exact HP9.out.keep (fun b hb => HKX.out b (by have := HSS.out b hb; omega) (by have := HSS.out b hb; omega))
        · exact lafin (a := La.less ⟨fi, cp, l⟩ i) HSL.out (fun k hk => HKX.out k (HNK.out k hk).1 (HNK.out k hk).2.1) (fun k hk => ⟨by rw [HZX.out]; exact (HNK.out k hk).2.2.1, (HNK.out k hk).2.2.2⟩)
theorem frzero_on {w : World} {S : Nat → Prop} : FrOn false w S (.agg #[.int .i64 0, .int .i64 0, .int .i64 0, .int .i64 0, .slice none 0 0, .int .i64 0, .int .i64 0, .int .i64 0, .slice none 0 0]) Fr.zero := ⟨none, none, 0, 0, rfl, SliceOn.none_, SliceOn.none_⟩
theorem La.can_no {a : La} {i : Int} (h : La.can a i = false) : i < 0 ∨ (¬ i < 0 ∧ (a.l.length : Int) ≤ i) ∨ (¬ i < 0 ∧ i < (a.l.length : Int) ∧ i > 0 ∧ a.fifo = true) := by
  by_cases h1 : i < 0
  · exact .inl h1
  · by_cases h2 : (a.l.length : Int) ≤ i
    · exact .inr (.inl ⟨h1, h2⟩)
    · refine .inr (.inr ⟨h1, by omega, ?_⟩)
      have e1 : decide (0 ≤ i) = true := decide_eq_true (by omega)
      have e2 : decide (i < (a.l.length : Int)) = true := decide_eq_true (by omega)
      unfold La.can at h
      rw [e1, e2] at h
      cases hf : a.fifo with
      | false => rw [hf] at h; simp at h
      | true => rw [hf] at h; simp at h; exact ⟨by omega, rfl⟩
theorem La.can_yes {a : La} {i : Int} (h : La.can a i = true) : ∃ k : Nat, i = (k : Int) ∧ k < a.l.length ∧ (a.fifo = true → k = 0) := by
  unfold La.can at h
  simp only [Bool.and_eq_true, Bool.or_eq_true, decide_eq_true_eq, Bool.not_eq_true'] at h
  obtain ⟨h1, h2, h3⟩ := h
  refine ⟨i.toNat, by omega, by omega, fun hf => ?_⟩
  rcases h3 with h3 | h3
  · rw [h3] at hf; cases hf
  · omega
/-- The document's Take. -/
theorem ratake_any (v : Value) (a : La) (i : Int) (w : World) (S : Nat → Prop) (hS : ∀ b, S b → b < w.heap.size) (h : LaOn w S v a) (hn : a.l.length ≤ 1000000) : Calls Try.prog 23 #[v, .int .i64 i] w
    fun y w' => (∃ p u, y = .returned (.tuple #[p, u, .int .i64 (La.takeE a i)]) ∧ FrOn false w' S p (La.takeF a i) ∧ LaOn w' (also S w.heap.size w'.heap.size) u (La.take a i)) ∧ Below w.heap.size w w' := by
  obtain ⟨fi, cp, l⟩ := a
  cases hc : La.can ⟨fi, cp, l⟩ i with
  | false =>
    have key : Calls Try.prog 23 #[v, .int .i64 i] w fun y w' => y = .returned (.tuple #[.agg #[.int .i64 0, .int .i64 0, .int .i64 0, .int .i64 0, .slice none 0 0, .int .i64 0, .int .i64 0, .int .i64 0, .slice none 0 0], .agg #[.bool false, .int .i64 0, .slice none 0 0], .int .i64 3]) ∧ Below w.heap.size w w' := by
      rcases La.can_no hc with h1 | ⟨h1, h2⟩ | ⟨h1, h2, h3, h4⟩
      · exact ratake_low v fi cp l i w S hS h h1
      · exact ratake_high v fi cp l i w S hS h h1 h2
      · have h5 : fi = true := h4
        subst h5
        exact ratake_fifo v cp l i w S hS h h1 h2 h3
    refine key.mono ?_
    rintro y w' ⟨rfl, hb⟩
    rw [La.takeE, La.takeF, La.take, hc]
    exact ⟨⟨_, _, rfl, frzero_on, lazero_on⟩, hb⟩
  | true =>
    obtain ⟨k, rfl, h1, h2⟩ := La.can_yes hc
    refine (ratake_yes v fi cp l k w S hS h hn h1 h2).mono ?_
    rintro y w' ⟨⟨p, u, rfl, hp, hu⟩, hb⟩
    rw [La.takeE, La.takeF, La.take, hc]
    exact ⟨⟨p, u, rfl, hp, hu⟩, hb⟩
end Go.Proofs.Ytkkbblpofhenpaa

/- lane.Take. -/
namespace Go.Proofs.Ytkkbblpofhenpaa
open Go.RowKit

set_option maxRecDepth 100000 in
set_option maxHeartbeats 1000000 in
theorem latake_low (v : Value) (fi : Bool) (cp : Int) (l : List Fr) (i : Int) (w : World) (S : Nat → Prop) (hS : ∀ b, S b → b < w.heap.size) (h : LaOn w S v ⟨fi, cp, l⟩) (hi : i < 0) : Calls Try.prog 22 #[v, .int .i64 i] w
    fun y w' => y = .returned (.tuple #[.agg #[.int .i64 0, .int .i64 0, .int .i64 0, .int .i64 0, .slice none 0 0, .int .i64 0, .int .i64 0, .int .i64 0, .slice none 0 0], .agg #[.bool false, .int .i64 0, .slice none 0 0], .int .i64 3]) ∧ Below w.heap.size w w' := by
  obtain ⟨A, c, he, h1⟩ := h
  dsimp only at he h1
  subst he
  have hl := (h1.all_ hS).len_le
  have hlc : l.length ≤ c := (h1.all_ hS).len_cap
  clear hS
  go_enter Try.func22, Try.ntmps22
  go_upto_region 1 with fail
  refine name_wp fun W0 hW0 => ?_
  have bx : Box W0 w.heap.size #[.bool fi, .int .i64 cp, .slice A l.length c] 25 := hW0 ▸ ((Box.at' _ _ rfl).alloc _).alloc _
  have b4 : Box W0 (w.heap.size + 1) #[.int .i64 0, .int .i64 0, .int .i64 0, .int .i64 0, .slice none 0 0, .int .i64 0, .int .i64 0, .int .i64 0, .slice none 0 0] 37 := hW0 ▸ (Box.at' _ _ (by simp)).alloc _
  have b5 : Box W0 (w.heap.size + 1 + 1) #[.bool false, .int .i64 0, .slice none 0 0] 25 := hW0 ▸ Box.at' _ _ (by simp)
  have hB : Below w.heap.size w W0 := hW0 ▸ (((Below.refl _ _).alloc (Nat.le_refl _) _).alloc (by simp) _).alloc (by simp; omega) _
  clear hW0
  have hbl := bx.lt
  obtain ⟨d0, d1, d2⟩ := three_cells bx
  obtain ⟨c0, c1, c2, c3, c4, c5, c6, c7, c8⟩ := nine_cells b4
  obtain ⟨g0, g1, g2, g3, g4, g5, g6, g7, g8⟩ := nine_free b4
  obtain ⟨z0, z1, z2⟩ := three_cells b5
  have zf0 := three_free b5 0
  have zf1 := three_free b5 1
  have zf2 := three_free b5 2
  have h4l := b4.lt; have h5l := b5.lt
  clear h1
  go_wp2_with fail
  refine bodyPost_ret (v := .tuple #[.agg #[.int .i64 0, .int .i64 0, .int .i64 0, .int .i64 0, .slice none 0 0, .int .i64 0, .int .i64 0, .int .i64 0, .slice none 0 0], .agg #[.bool false, .int .i64 0, .slice none 0 0], .int .i64 3]) (by simp [results, Try.results22, go_sem, c0, c1, c2, c3, c4, c5, c6, c7, c8, z0, z1, z2]) rfl ⟨rfl, ?_⟩
  exact (((nine_below hB (by omega)).setCell (by simp; omega) _).setCell (by simp; omega) _).setCell (by simp; omega) _

set_option maxRecDepth 100000 in
set_option maxHeartbeats 1000000 in
theorem latake_high (v : Value) (fi : Bool) (cp : Int) (l : List Fr) (i : Int) (w : World) (S : Nat → Prop) (hS : ∀ b, S b → b < w.heap.size) (h : LaOn w S v ⟨fi, cp, l⟩) (hi : ¬ i < 0) (hge : (l.length : Int) ≤ i) : Calls Try.prog 22 #[v, .int .i64 i] w
    fun y w' => y = .returned (.tuple #[.agg #[.int .i64 0, .int .i64 0, .int .i64 0, .int .i64 0, .slice none 0 0, .int .i64 0, .int .i64 0, .int .i64 0, .slice none 0 0], .agg #[.bool false, .int .i64 0, .slice none 0 0], .int .i64 3]) ∧ Below w.heap.size w w' := by
  obtain ⟨A, c, he, h1⟩ := h
  dsimp only at he h1
  subst he
  have hl := (h1.all_ hS).len_le
  have hlc : l.length ≤ c := (h1.all_ hS).len_cap
  clear hS
  go_enter Try.func22, Try.ntmps22
  go_upto_region 1 with fail
  refine name_wp fun W0 hW0 => ?_
  have bx : Box W0 w.heap.size #[.bool fi, .int .i64 cp, .slice A l.length c] 25 := hW0 ▸ ((Box.at' _ _ rfl).alloc _).alloc _
  have b4 : Box W0 (w.heap.size + 1) #[.int .i64 0, .int .i64 0, .int .i64 0, .int .i64 0, .slice none 0 0, .int .i64 0, .int .i64 0, .int .i64 0, .slice none 0 0] 37 := hW0 ▸ (Box.at' _ _ (by simp)).alloc _
  have b5 : Box W0 (w.heap.size + 1 + 1) #[.bool false, .int .i64 0, .slice none 0 0] 25 := hW0 ▸ Box.at' _ _ (by simp)
  have hB : Below w.heap.size w W0 := hW0 ▸ (((Below.refl _ _).alloc (Nat.le_refl _) _).alloc (by simp) _).alloc (by simp; omega) _
  clear hW0
  have hbl := bx.lt
  obtain ⟨d0, d1, d2⟩ := three_cells bx
  obtain ⟨c0, c1, c2, c3, c4, c5, c6, c7, c8⟩ := nine_cells b4
  obtain ⟨g0, g1, g2, g3, g4, g5, g6, g7, g8⟩ := nine_free b4
  obtain ⟨z0, z1, z2⟩ := three_cells b5
  have zf0 := three_free b5 0
  have zf1 := three_free b5 1
  have zf2 := three_free b5 2
  have h4l := b4.lt; have h5l := b5.lt
  clear h1
  have hi2 : i ≥ (l.length : Int) := by omega
  go_wp2_with fail
  refine bodyPost_ret (v := .tuple #[.agg #[.int .i64 0, .int .i64 0, .int .i64 0, .int .i64 0, .slice none 0 0, .int .i64 0, .int .i64 0, .int .i64 0, .slice none 0 0], .agg #[.bool false, .int .i64 0, .slice none 0 0], .int .i64 3]) (by simp [results, Try.results22, go_sem, c0, c1, c2, c3, c4, c5, c6, c7, c8, z0, z1, z2]) rfl ⟨rfl, ?_⟩
  exact (((nine_below hB (by omega)).setCell (by simp; omega) _).setCell (by simp; omega) _).setCell (by simp; omega) _

set_option maxRecDepth 100000 in
set_option maxHeartbeats 1000000 in
theorem latake_fifo (v : Value) (cp : Int) (l : List Fr) (i : Int) (w : World) (S : Nat → Prop) (hS : ∀ b, S b → b < w.heap.size) (h : LaOn w S v ⟨true, cp, l⟩) (hi : ¬ i < 0) (hlt : i < (l.length : Int)) (h0 : i > 0) : Calls Try.prog 22 #[v, .int .i64 i] w
    fun y w' => y = .returned (.tuple #[.agg #[.int .i64 0, .int .i64 0, .int .i64 0, .int .i64 0, .slice none 0 0, .int .i64 0, .int .i64 0, .int .i64 0, .slice none 0 0], .agg #[.bool false, .int .i64 0, .slice none 0 0], .int .i64 3]) ∧ Below w.heap.size w w' := by
  obtain ⟨A, c, he, h1⟩ := h
  dsimp only at he h1
  subst he
  have hl := (h1.all_ hS).len_le
  have hlc : l.length ≤ c := (h1.all_ hS).len_cap
  clear hS
  go_enter Try.func22, Try.ntmps22
  go_upto_region 1 with fail
  refine name_wp fun W0 hW0 => ?_
  have bx : Box W0 w.heap.size #[.bool true, .int .i64 cp, .slice A l.length c] 25 := hW0 ▸ ((Box.at' _ _ rfl).alloc _).alloc _
  have b4 : Box W0 (w.heap.size + 1) #[.int .i64 0, .int .i64 0, .int .i64 0, .int .i64 0, .slice none 0 0, .int .i64 0, .int .i64 0, .int .i64 0, .slice none 0 0] 37 := hW0 ▸ (Box.at' _ _ (by simp)).alloc _
  have b5 : Box W0 (w.heap.size + 1 + 1) #[.bool false, .int .i64 0, .slice none 0 0] 25 := hW0 ▸ Box.at' _ _ (by simp)
  have hB : Below w.heap.size w W0 := hW0 ▸ (((Below.refl _ _).alloc (Nat.le_refl _) _).alloc (by simp) _).alloc (by simp; omega) _
  clear hW0
  have hbl := bx.lt
  obtain ⟨d0, d1, d2⟩ := three_cells bx
  obtain ⟨c0, c1, c2, c3, c4, c5, c6, c7, c8⟩ := nine_cells b4
  obtain ⟨g0, g1, g2, g3, g4, g5, g6, g7, g8⟩ := nine_free b4
  obtain ⟨z0, z1, z2⟩ := three_cells b5
  have zf0 := three_free b5 0
  have zf1 := three_free b5 1
  have zf2 := three_free b5 2
  have h4l := b4.lt; have h5l := b5.lt
  clear h1
  have hi2 : ¬ i ≥ (l.length : Int) := by omega
  go_wp2_with fail
  refine bodyPost_ret (v := .tuple #[.agg #[.int .i64 0, .int .i64 0, .int .i64 0, .int .i64 0, .slice none 0 0, .int .i64 0, .int .i64 0, .int .i64 0, .slice none 0 0], .agg #[.bool false, .int .i64 0, .slice none 0 0], .int .i64 3]) (by simp [results, Try.results22, go_sem, c0, c1, c2, c3, c4, c5, c6, c7, c8, z0, z1, z2]) rfl ⟨rfl, ?_⟩
  exact (((nine_below hB (by omega)).setCell (by simp; omega) _).setCell (by simp; omega) _).setCell (by simp; omega) _

/-- lane.Take. -/
theorem latake_any (v : Value) (a : La) (i : Int) (w : World) (S : Nat → Prop) (hS : ∀ b, S b → b < w.heap.size) (h : LaOn w S v a) (hn : a.l.length ≤ 1000000) : Calls Try.prog 22 #[v, .int .i64 i] w
    fun y w' => (∃ p u, y = .returned (.tuple #[p, u, .int .i64 (La.takeE a i)]) ∧ FrOn false w' S p (La.takeF a i) ∧ LaNew w' S w.heap.size u (La.take a i)) ∧ Below w.heap.size w w' := by
  obtain ⟨fi, cp, l⟩ := a
  cases hc : La.can ⟨fi, cp, l⟩ i with
  | false =>
    have key : Calls Try.prog 22 #[v, .int .i64 i] w fun y w' => y = .returned (.tuple #[.agg #[.int .i64 0, .int .i64 0, .int .i64 0, .int .i64 0, .slice none 0 0, .int .i64 0, .int .i64 0, .int .i64 0, .slice none 0 0], .agg #[.bool false, .int .i64 0, .slice none 0 0], .int .i64 3]) ∧ Below w.heap.size w w' := by
      rcases La.can_no hc with h1 | ⟨h1, h2⟩ | ⟨h1, h2, h3, h4⟩
      · exact latake_low v fi cp l i w S hS h h1
      · exact latake_high v fi cp l i w S hS h h1 h2
      · have h5 : fi = true := h4
        subst h5
        exact latake_fifo v cp l i w S hS h h1 h2 h3
    refine key.mono ?_
    rintro y w' ⟨rfl, hb⟩
    rw [La.takeE, La.takeF, La.take, hc]
    exact ⟨⟨_, _, rfl, frzero_on, LaNew.zero⟩, hb⟩
  | true =>
    obtain ⟨k, rfl, h1, h2⟩ := La.can_yes hc
    refine (latake_yes v fi cp l k w S hS h hn h1 h2).mono ?_
    rintro y w' ⟨⟨p, u, rfl, hp, hu⟩, hb⟩
    rw [La.takeE, La.takeF, La.take, hc]
    exact ⟨⟨p, u, rfl, hp, hu⟩, hb⟩
end Go.Proofs.Ytkkbblpofhenpaa
