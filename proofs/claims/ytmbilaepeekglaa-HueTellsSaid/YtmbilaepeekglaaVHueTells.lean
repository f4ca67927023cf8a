/- HueTells: the walk. -/
import Derived.Test.YtmbilaepeekglaaHY
namespace Go.Proofs.Ytmbilaepeekglaa.hueTells
open Go.RowKit Go.Maps Go.Proofs.Ytmbilaepeekglaa

set_option maxRecDepth 100000 in
set_option maxHeartbeats 8000000 in
theorem walk (x y : Int) (v1 : Value) (xs1 : List Int) (v2 : Value) (xs2 : List (Int × Int)) (w : World) (h1 : SliceIs Rep.int false w 0 w.heap.size v1 xs1) (h2 : SliceIs Rep.msg false w 0 w.heap.size v2 xs2) (hwf : ∀ m ∈ xs2, Wf m.1) :
    Calls Try.prog 3 #[.agg #[.int .i64 x, .int .i64 y], v1, v2] w fun x w' => x = .returned (.bool true) ∧ Below w.heap.size w w' := by
  obtain ⟨A1, c1, rfl, n1, m1, _⟩ := id h1
  obtain ⟨out, hcut1⟩ : ∃ ys, ys = xs1.take 40 := ⟨_, rfl⟩
  have hcl1 : (min (xs1.length : Int) 40).toNat = out.length := by rw [hcut1]; simp; omega
  have l1 : out.length ≤ 40 := by rw [hcut1]; simp; omega
  have hm1 : (0 : Int) ≤ min (xs1.length : Int) 40 := by omega
  have hk1 : min (xs1.length : Int) 40 ≤ (c1 : Int) := by omega
  have q1 : SliceIs Rep.int false w 0 w.heap.size (.slice A1 out.length c1) out := hcut1 ▸ SliceIs.cut h1 40
  have e1 : out.length ≤ c1 := by omega
  clear hcut1 h1
  obtain ⟨A2, c2, rfl, n2, m2, _⟩ := id h2
  obtain ⟨inn, hcut2⟩ : ∃ ys, ys = xs2.take 40 := ⟨_, rfl⟩
  have hcl2 : (min (xs2.length : Int) 40).toNat = inn.length := by rw [hcut2]; simp; omega
  have l2 : inn.length ≤ 40 := by rw [hcut2]; simp; omega
  have hm2 : (0 : Int) ≤ min (xs2.length : Int) 40 := by omega
  have hk2 : min (xs2.length : Int) 40 ≤ (c2 : Int) := by omega
  have q2 : SliceIs Rep.msg false w 0 w.heap.size (.slice A2 inn.length c2) inn := hcut2 ▸ SliceIs.cut h2 40
  have e2 : inn.length ≤ c2 := by omega
  have hwf' : ∀ m ∈ inn, Wf m.1 := fun m hm => hwf m (List.mem_of_mem_take (hcut2 ▸ hm))
  replace hwf := hwf'; clear hwf'
  clear hcut2 h2
  go_enter Try.func3, Try.ntmps3
  try simp only [List.append_eq, List.cons_append, List.nil_append]
  go_wp2_with fail
  refine name_call fun W0 hW0 => ?_
  have bx0 : Box W0 (w.heap.size) #[.int .i64 x, .int .i64 y] 22 := hW0 ▸ (((((Box.new' #[.int .i64 x, .int .i64 y] 22 (by simp)).alloc _).alloc _).alloc _).alloc _)
  have bx1 : Box W0 (w.heap.size + 1) #[.slice A2 inn.length c2] 24 := hW0 ▸ ((((Box.new' #[.slice A2 inn.length c2] 24 (by simp)).alloc _).alloc _).alloc _)
  have bx2 : Box W0 (w.heap.size + 1 + 1) #[.slice A1 out.length c1] 23 := hW0 ▸ (((Box.new' #[.slice A1 out.length c1] 23 (by simp)).alloc _).alloc _)
  have bx3 : Box W0 (w.heap.size + 1 + 1 + 1) #[.int .i64 1, .int .i64 3, .int .i64 5, .slice (some ⟨w.heap.size + 1, 0, none⟩) 1 1, .slice (some ⟨w.heap.size + 1 + 1, 0, none⟩) 1 1] 28 := hW0 ▸ ((Box.new' #[.int .i64 1, .int .i64 3, .int .i64 5, .slice (some ⟨w.heap.size + 1, 0, none⟩) 1 1, .slice (some ⟨w.heap.size + 1 + 1, 0, none⟩) 1 1] 28 (by simp)).alloc _)
  have bx4 : Box W0 (w.heap.size + 1 + 1 + 1 + 1) #[.int .i64 x, .int .i64 0, .int .i64 0, .int .i64 0, .slice none 0 0, .slice none 0 0, .slice none 0 0] 32 := hW0 ▸ (Box.new' #[.int .i64 x, .int .i64 0, .int .i64 0, .int .i64 0, .slice none 0 0, .slice none 0 0, .slice none 0 0] 32 (by simp))
  have hB : Below w.heap.size w W0 := hW0 ▸ (((((Below.refl _ _).alloc (by first | (simp; done) | (simp; omega)) _).alloc (by first | (simp; done) | (simp; omega)) _).alloc (by first | (simp; done) | (simp; omega)) _).alloc (by first | (simp; done) | (simp; omega)) _).alloc (by first | (simp; done) | (simp; omega)) _
  have hst : HostIs false W0 0 W0.heap.size (.agg #[.int .i64 1, .int .i64 3, .int .i64 5, .slice (some ⟨w.heap.size + 1, 0, none⟩) 1 1, .slice (some ⟨w.heap.size + 1 + 1, 0, none⟩) 1 1]) ⟨1, 3, 5, [inn], [out]⟩ := by
    refine ⟨_, _, rfl, SliceOn.is_ ?_, SliceOn.is_ ?_⟩
    · exact SliceOn.of_block (cells := [.slice A2 inn.length c2]) bx1 ⟨[_], [], rfl, ⟨_, rfl, (q2.below hB (Nat.le_refl _)).widen (Nat.le_refl _) hB.size⟩, rfl⟩ ⟨Nat.zero_le _, bx1.lt⟩ rfl (by simp) (by unfold maxLen; omega)
    · exact SliceOn.of_block (cells := [.slice A1 out.length c1]) bx2 ⟨[_], [], rfl, ⟨_, rfl, (q1.below hB (Nat.le_refl _)).widen (Nat.le_refl _) hB.size⟩, rfl⟩ ⟨Nat.zero_le _, bx2.lt⟩ rfl (by simp) (by unfold maxLen; omega)
  have hz : HueIs false W0 0 W0.heap.size (.agg #[.int .i64 x, .int .i64 0, .int .i64 0, .int .i64 0, .slice none 0 0, .slice none 0 0, .slice none 0 0]) x Pc.zero := HueIs.of (p := Pc.zero) ⟨_, _, _, rfl, SliceIs.none_, SliceIs.none_, SliceIs.none_⟩
  replace q1 := (q1.below hB (Nat.le_refl _)).widen (Nat.le_refl _) hB.size
  replace q2 := (q2.below hB (Nat.le_refl _)).widen (Nat.le_refl _) hB.size
  have hs : Hu.Host.sized ⟨1, 3, 5, [inn], [out]⟩ := ⟨by simp, by simp, by simp; omega, by simp; omega⟩
  clear bx1 bx2 hW0 hcl1 hcl2 hm1 hm2 hk1 hk2
  refine (turnq hz hst hs).mono ?_
  rintro e w1 ⟨⟨v, rfl, hu⟩, hb⟩
  replace bx0 := bx0.next hb
  replace bx3 := bx3.next hb
  replace bx4 := bx4.next hb
  replace hst := hst.next hb
  replace hz := hz.next hb
  replace q1 := q1.next hb
  replace q2 := q2.next hb
  replace hB := hB.trans (hb.mono hB.size)
  clear hb
  obtain ⟨EE, hEE⟩ : ∃ e, Hu.E x y = e := ⟨_, rfl⟩
  obtain ⟨PP, hPP⟩ : ∃ e, Hu.T x y ⟨1, 3, 5, [inn], [out]⟩ Pc.zero = e := ⟨_, rfl⟩
  rw [hEE, hPP] at hu
  obtain ⟨bb, hbb⟩ : ∃ b, decide (x < y) = b := ⟨_, rfl⟩
  rw [hbb]
  have HBB := Lib.hid hbb; have HEE := Lib.hid hEE; have HPP := Lib.hid hPP; clear hbb hEE hPP
  obtain ⟨A3, A4, A5, a3, a4, a5, rfl, _⟩ := id hu
  go_wp2_with fail
  refine name_wp fun W1 hW1 => ?_
  have bx5 : Box W1 w1.heap.size #[.int .i64 EE, .int .i64 PP.node, .int .i64 PP.state, .int .i64 PP.steps, .slice A3 PP.sent.length a3, .slice A4 PP.inn.length a4, .slice A5 PP.out.length a5] 32 := hW1 ▸ Box.new _ _ _
  have hb : Below w1.heap.size w1 W1 := hW1 ▸ (Below.refl _ _).alloc (Nat.le_refl _) _
  replace bx0 := bx0.next hb
  replace bx3 := bx3.next hb
  replace bx4 := bx4.next hb
  replace hst := hst.next hb
  replace hz := hz.next hb
  replace q1 := q1.next hb
  replace q2 := q2.next hb
  replace hu := hu.next hb
  replace hB := hB.trans (hb.mono hB.size)
  clear hb hW1
  have hold : Old W1 W1.heap.size _ _ _ := ⟨hz, Nat.le_refl _⟩
  go_cut [11, 12] (fun p q wx => TurnPost 37 W1 EE PP bb p q wx)
  case first =>
    have hV := Below.refl W1.heap.size W1
    replace hold := hold.next ((Below.refl _ _).drew)
    replace hst := hst.next ((Below.refl _ _).drew)
    replace bx0 := bx0.next ((Below.refl _ _).drew)
    replace bx3 := bx3.next ((Below.refl _ _).drew)
    replace bx4 := bx4.next ((Below.refl _ _).drew)
    replace hV := hV.drew
    refine region_go 74 (by kernel_rfl) ?_
    obtain ⟨c0, c1, c2, c3, c4, c5, c6⟩ := seven_cells bx4
    refine wpAny_go 74 0 [0] 1 12 (by kernel_rfl) (by kernel_rfl) (fun _ _ _ _ _ h => h) (by kernel_rfl) (by rfl) (by rfl) (by kernel_rfl) ?_
    simp only [List.map_cons, List.map_nil, List.getD_cons_zero]
    go_wp2_with fail
    change wpAnyM _ _ _ _ _ _ _ _ _ _
    clear c0 c1 c2 c3 c4 c5 c6
    obtain ⟨c0, c1, c2, c3, c4⟩ := five_cells bx3
    obtain ⟨d0, d1⟩ := two_cells bx0
    refine wpAny_reads 74 1 [2, 4, 5] 53 9 (by kernel_rfl) (by kernel_rfl) (fun _ _ _ _ _ h => h) (by kernel_rfl) (by rfl) (by rfl) (by kernel_rfl) ?_
    simp only [List.map_cons, List.map_nil, List.getD_cons_succ, List.getD_cons_zero]
    go_wp2_with fail
    change _ → wpAnyM _ _ _ _ _ _ _ _ _ _; intro _
    clear c0 c1 c2 c3 c4
    clear d0 d1
    refine name_any fun y0 hy => ?_
    have s0 : W1.heap.size ≤ y0.heap.size := by rw [← hy]; simp
    rw [hy] at hold
    rw [hy] at hst
    rw [hy] at hV
    have hE : Ext W1.drew y0 := by rw [hy]; exact Ext.refl _
    clear hy bx0 bx3 bx4
    refine wpAny_twoM 1 10 55 1077 (by kernel_rfl) (by kernel_rfl) (of_decide_eq_true (by kernel_rfl)) (of_decide_eq_true (by kernel_rfl)) (by rfl) (by rfl) ?_ ?_
    ·
      simp only [List.getD_cons_succ, List.getD_cons_zero]
      go_wp2_with fail
      refine (hueRefq hz).mono ?_
      rintro e y1 ⟨rfl, hh⟩
      have s1 := hh.size
      replace hold := hold.next hh
      replace hst := hst.next hh
      replace hE := hE.trans (Ext.below hh (Nat.le_refl _))
      replace hV := hV.trans (hh.mono hV.size)
      clear hh
      go_wp2_with fail
      refine ⟨fun _ => hE, ?_⟩
      refine wpAny_twoM 3 10 63 1079 (by kernel_rfl) (by kernel_rfl) (of_decide_eq_true (by kernel_rfl)) (of_decide_eq_true (by kernel_rfl)) (by rfl) (by rfl) ?_ ?_
      ·
        simp only [List.getD_cons_succ, List.getD_cons_zero]
        go_wp2_with fail
        refine (hostRefq hst).mono ?_
        rintro e y2 ⟨rfl, hh⟩
        have s2 := hh.size
        replace hold := hold.next hh
        replace hst := hst.next hh
        replace hE := hE.trans (Ext.below hh (Nat.le_refl _))
        replace hV := hV.trans (hh.mono hV.size)
        clear hh
        go_wp2_with fail
        refine ⟨fun _ => hE, ?_⟩
        refine wpAny_twoM 6 10 127 1087 (by kernel_rfl) (by kernel_rfl) (of_decide_eq_true (by kernel_rfl)) (of_decide_eq_true (by kernel_rfl)) (by rfl) (by rfl) ?_ ?_
        ·
          simp only [List.getD_cons_succ, List.getD_cons_zero]
          go_wp2_with fail
          refine (rturnq2 hold hst hs).mono ?_
          rintro e y3 ⟨⟨v, rfl, hn⟩, hh⟩
          have s3 := hh.size
          replace hold := hold.next hh
          replace hst := hst.next hh
          replace hE := hE.trans (Ext.below hh (Nat.le_refl _))
          replace hV := hV.trans (hh.mono hV.size)
          clear hh
          rw [HEE.out, HPP.out] at hn
          rw [HBB.out]
          obtain ⟨A3, A4, A5, a3, a4, a5, rfl⟩ := hn.form
          go_wp2_with fail
          refine ⟨fun _ => hE, ?_⟩
          refine wpAny_go 74 127 [7, 8] 511 4 (by kernel_rfl) (by kernel_rfl) (fun _ _ _ _ _ h => h) (by kernel_rfl) (by rfl) (by rfl) (by kernel_rfl) ?_
          simp only [List.map_cons, List.map_nil, List.getD_cons_succ, List.getD_cons_zero]
          go_wp2_with fail
          change wpAnyM _ _ _ _ _ _ _ _ _ _
          refine wpAny_takeM 9 rfl (by kernel_rfl) (by rfl : 511 ||| 2 ^ 9 = 1023) (by kernel_rfl) (by kernel_rfl) (by kernel_rfl) (by kernel_rfl) (fun _ _ _ h => h) (.inl ⟨by rfl, fun w => by (go_simp; try with_reducible rfl)⟩) ?_
          refine wpAny_go 74 1023 [10, 11, 12] 8191 0 (by kernel_rfl) (by kernel_rfl) (fun _ _ _ _ _ h => h) (by kernel_rfl) (by rfl) (by rfl) (by kernel_rfl) ?_
          simp only [List.map_cons, List.map_nil, List.getD_cons_succ, List.getD_cons_zero]
          go_wp2_with fail
          change wpAnyM _ _ _ _ _ _ _ _ _ _
          refine wpAny_endM (by kernel_rfl) (by kernel_rfl) ?_
          go_wp2_with fail
          go_meet
          exact TurnPost.late hn hV
        ·
          simp only [List.getD_cons_succ, List.getD_cons_zero]
          go_wp2_with fail
          refine ⟨fun h => absurd h (by decide), name_any fun y3 hw => ?_⟩
          have hg : Box y3 y2.heap.size #[.int .i64 0, .int .i64 0, .int .i64 0, .int .i64 0, .slice none 0 0, .slice none 0 0, .slice none 0 0] 37 := hw ▸ Box.new _ _ _
          have hh : Below y2.heap.size y2 y3 := hw ▸ ((Below.refl _ _).alloc (Nat.le_refl _) _)
          have s3 : y2.heap.size < y3.heap.size := hw ▸ (by simp)
          clear hw
          replace hold := hold.next hh
          replace hst := hst.next hh
          replace hE := hE.trans (Ext.below hh (Nat.le_refl _))
          replace hV := hV.trans (hh.mono hV.size)
          clear hh
          refine wpAny_oneM 6 1151 (by kernel_rfl) (by kernel_rfl) (of_decide_eq_true (by kernel_rfl)) (by rfl) ?_
          simp only [List.getD_cons_succ, List.getD_cons_zero]
          go_wp2_with fail
          refine (rturnq2 hold hst hs).mono ?_
          rintro e y4 ⟨⟨v, rfl, hn⟩, hh⟩
          have s4 := hh.size
          replace hold := hold.next hh
          replace hst := hst.next hh
          replace hg := hg.next hh
          replace hE := hE.trans (Ext.below hh (Nat.le_refl _))
          replace hV := hV.trans (hh.mono hV.size)
          clear hh
          rw [HEE.out, HPP.out] at hn
          rw [HBB.out]
          obtain ⟨A3, A4, A5, a3, a4, a5, rfl⟩ := hn.form
          go_wp2_with fail
          refine ⟨fun _ => hE, ?_⟩
          refine wpAny_go 74 1151 [7, 8] 1535 3 (by kernel_rfl) (by kernel_rfl) (fun _ _ _ _ _ h => h) (by kernel_rfl) (by rfl) (by rfl) (by kernel_rfl) ?_
          simp only [List.map_cons, List.map_nil, List.getD_cons_succ, List.getD_cons_zero]
          go_wp2_with fail
          change wpAnyM _ _ _ _ _ _ _ _ _ _
          refine wpAny_takeM 9 rfl (by kernel_rfl) (by rfl : 1535 ||| 2 ^ 9 = 2047) (by kernel_rfl) (by kernel_rfl) (by kernel_rfl) (by kernel_rfl) (fun _ _ _ h => h) (.inl ⟨by rfl, fun w => by (go_simp; try with_reducible rfl)⟩) ?_
          obtain ⟨d0, d1, d2, d3, d4, d5, d6⟩ := seven_cells hg
          obtain ⟨f0, f1, f2, f3, f4, f5, f6⟩ := seven_free hg
          refine wpAny_go 74 2047 [11, 12] 8191 0 (by kernel_rfl) (by kernel_rfl) (fun _ _ _ _ _ h => h) (by kernel_rfl) (by rfl) (by rfl) (by kernel_rfl) ?_
          simp only [List.map_cons, List.map_nil, List.getD_cons_succ, List.getD_cons_zero]
          go_wp2_with fail
          change wpAnyM _ _ _ _ _ _ _ _ _ _
          clear d0 d1 d2 d3 d4 d5 d6 f0 f1 f2 f3 f4 f5 f6
          refine wpAny_endM (by kernel_rfl) (by kernel_rfl) ?_
          go_wp2_with fail
          go_meet
          exact TurnPost.early hn hV hg (by omega) (by omega) (by omega)
      ·
        simp only [List.getD_cons_succ, List.getD_cons_zero]
        go_wp2_with fail
        refine ⟨fun h => absurd h (by decide), name_any fun y2 hw => ?_⟩
        have hg : Box y2 y1.heap.size #[.int .i64 0, .int .i64 0, .int .i64 0, .int .i64 0, .slice none 0 0, .slice none 0 0, .slice none 0 0] 37 := hw ▸ Box.new _ _ _
        have hh : Below y1.heap.size y1 y2 := hw ▸ ((Below.refl _ _).alloc (Nat.le_refl _) _)
        have s2 : y1.heap.size < y2.heap.size := hw ▸ (by simp)
        clear hw
        replace hold := hold.next hh
        replace hst := hst.next hh
        replace hE := hE.trans (Ext.below hh (Nat.le_refl _))
        replace hV := hV.trans (hh.mono hV.size)
        clear hh
        refine wpAny_oneM 3 1087 (by kernel_rfl) (by kernel_rfl) (of_decide_eq_true (by kernel_rfl)) (by rfl) ?_
        simp only [List.getD_cons_succ, List.getD_cons_zero]
        go_wp2_with fail
        refine (hostRefq hst).mono ?_
        rintro e y3 ⟨rfl, hh⟩
        have s3 := hh.size
        replace hold := hold.next hh
        replace hst := hst.next hh
        replace hg := hg.next hh
        replace hE := hE.trans (Ext.below hh (Nat.le_refl _))
        replace hV := hV.trans (hh.mono hV.size)
        clear hh
        go_wp2_with fail
        refine ⟨fun _ => hE, ?_⟩
        refine wpAny_oneM 6 1151 (by kernel_rfl) (by kernel_rfl) (of_decide_eq_true (by kernel_rfl)) (by rfl) ?_
        simp only [List.getD_cons_succ, List.getD_cons_zero]
        go_wp2_with fail
        refine (rturnq2 hold hst hs).mono ?_
        rintro e y4 ⟨⟨v, rfl, hn⟩, hh⟩
        have s4 := hh.size
        replace hold := hold.next hh
        replace hst := hst.next hh
        replace hg := hg.next hh
        replace hE := hE.trans (Ext.below hh (Nat.le_refl _))
        replace hV := hV.trans (hh.mono hV.size)
        clear hh
        rw [HEE.out, HPP.out] at hn
        rw [HBB.out]
        obtain ⟨A3, A4, A5, a3, a4, a5, rfl⟩ := hn.form
        go_wp2_with fail
        refine ⟨fun _ => hE, ?_⟩
        refine wpAny_go 74 1151 [7, 8] 1535 3 (by kernel_rfl) (by kernel_rfl) (fun _ _ _ _ _ h => h) (by kernel_rfl) (by rfl) (by rfl) (by kernel_rfl) ?_
        simp only [List.map_cons, List.map_nil, List.getD_cons_succ, List.getD_cons_zero]
        go_wp2_with fail
        change wpAnyM _ _ _ _ _ _ _ _ _ _
        refine wpAny_takeM 9 rfl (by kernel_rfl) (by rfl : 1535 ||| 2 ^ 9 = 2047) (by kernel_rfl) (by kernel_rfl) (by kernel_rfl) (by kernel_rfl) (fun _ _ _ h => h) (.inl ⟨by rfl, fun w => by (go_simp; try with_reducible rfl)⟩) ?_
        obtain ⟨d0, d1, d2, d3, d4, d5, d6⟩ := seven_cells hg
        obtain ⟨f0, f1, f2, f3, f4, f5, f6⟩ := seven_free hg
        refine wpAny_go 74 2047 [11, 12] 8191 0 (by kernel_rfl) (by kernel_rfl) (fun _ _ _ _ _ h => h) (by kernel_rfl) (by rfl) (by rfl) (by kernel_rfl) ?_
        simp only [List.map_cons, List.map_nil, List.getD_cons_succ, List.getD_cons_zero]
        go_wp2_with fail
        change wpAnyM _ _ _ _ _ _ _ _ _ _
        clear d0 d1 d2 d3 d4 d5 d6 f0 f1 f2 f3 f4 f5 f6
        refine wpAny_endM (by kernel_rfl) (by kernel_rfl) ?_
        go_wp2_with fail
        go_meet
        exact TurnPost.early hn hV hg (by omega) (by omega) (by omega)
    ·
      simp only [List.getD_cons_succ, List.getD_cons_zero]
      go_wp2_with fail
      refine ⟨fun h => absurd h (by decide), name_any fun y1 hw => ?_⟩
      have hg : Box y1 y0.heap.size #[.int .i64 0, .int .i64 0, .int .i64 0, .int .i64 0, .slice none 0 0, .slice none 0 0, .slice none 0 0] 37 := hw ▸ Box.new _ _ _
      have hh : Below y0.heap.size y0 y1 := hw ▸ ((Below.refl _ _).alloc (Nat.le_refl _) _)
      have s1 : y0.heap.size < y1.heap.size := hw ▸ (by simp)
      clear hw
      replace hold := hold.next hh
      replace hst := hst.next hh
      replace hE := hE.trans (Ext.below hh (Nat.le_refl _))
      replace hV := hV.trans (hh.mono hV.size)
      clear hh
      refine wpAny_oneM 1 1079 (by kernel_rfl) (by kernel_rfl) (of_decide_eq_true (by kernel_rfl)) (by rfl) ?_
      simp only [List.getD_cons_succ, List.getD_cons_zero]
      go_wp2_with fail
      refine (hueRefq hz).mono ?_
      rintro e y2 ⟨rfl, hh⟩
      have s2 := hh.size
      replace hold := hold.next hh
      replace hst := hst.next hh
      replace hg := hg.next hh
      replace hE := hE.trans (Ext.below hh (Nat.le_refl _))
      replace hV := hV.trans (hh.mono hV.size)
      clear hh
      go_wp2_with fail
      refine ⟨fun _ => hE, ?_⟩
      refine wpAny_oneM 3 1087 (by kernel_rfl) (by kernel_rfl) (of_decide_eq_true (by kernel_rfl)) (by rfl) ?_
      simp only [List.getD_cons_succ, List.getD_cons_zero]
      go_wp2_with fail
      refine (hostRefq hst).mono ?_
      rintro e y3 ⟨rfl, hh⟩
      have s3 := hh.size
      replace hold := hold.next hh
      replace hst := hst.next hh
      replace hg := hg.next hh
      replace hE := hE.trans (Ext.below hh (Nat.le_refl _))
      replace hV := hV.trans (hh.mono hV.size)
      clear hh
      go_wp2_with fail
      refine ⟨fun _ => hE, ?_⟩
      refine wpAny_oneM 6 1151 (by kernel_rfl) (by kernel_rfl) (of_decide_eq_true (by kernel_rfl)) (by rfl) ?_
      simp only [List.getD_cons_succ, List.getD_cons_zero]
      go_wp2_with fail
      refine (rturnq2 hold hst hs).mono ?_
      rintro e y4 ⟨⟨v, rfl, hn⟩, hh⟩
      have s4 := hh.size
      replace hold := hold.next hh
      replace hst := hst.next hh
      replace hg := hg.next hh
      replace hE := hE.trans (Ext.below hh (Nat.le_refl _))
      replace hV := hV.trans (hh.mono hV.size)
      clear hh
      rw [HEE.out, HPP.out] at hn
      rw [HBB.out]
      obtain ⟨A3, A4, A5, a3, a4, a5, rfl⟩ := hn.form
      go_wp2_with fail
      refine ⟨fun _ => hE, ?_⟩
      refine wpAny_go 74 1151 [7, 8] 1535 3 (by kernel_rfl) (by kernel_rfl) (fun _ _ _ _ _ h => h) (by kernel_rfl) (by rfl) (by rfl) (by kernel_rfl) ?_
      simp only [List.map_cons, List.map_nil, List.getD_cons_succ, List.getD_cons_zero]
      go_wp2_with fail
      change wpAnyM _ _ _ _ _ _ _ _ _ _
      refine wpAny_takeM 9 rfl (by kernel_rfl) (by rfl : 1535 ||| 2 ^ 9 = 2047) (by kernel_rfl) (by kernel_rfl) (by kernel_rfl) (by kernel_rfl) (fun _ _ _ h => h) (.inl ⟨by rfl, fun w => by (go_simp; try with_reducible rfl)⟩) ?_
      obtain ⟨d0, d1, d2, d3, d4, d5, d6⟩ := seven_cells hg
      obtain ⟨f0, f1, f2, f3, f4, f5, f6⟩ := seven_free hg
      refine wpAny_go 74 2047 [11, 12] 8191 0 (by kernel_rfl) (by kernel_rfl) (fun _ _ _ _ _ h => h) (by kernel_rfl) (by rfl) (by rfl) (by kernel_rfl) ?_
      simp only [List.map_cons, List.map_nil, List.getD_cons_succ, List.getD_cons_zero]
      go_wp2_with fail
      change wpAnyM _ _ _ _ _ _ _ _ _ _
      clear d0 d1 d2 d3 d4 d5 d6 f0 f1 f2 f3 f4 f5 f6
      refine wpAny_endM (by kernel_rfl) (by kernel_rfl) ?_
      go_wp2_with fail
      go_meet
      exact TurnPost.early hn hV hg (by omega) (by omega) (by omega)
  case rest =>
    obtain ⟨g, rfl, rfl, hg1, ⟨B3, B4, B5, b3, b4, b5, bx6, hr⟩, hb⟩ := hcut
    obtain ⟨W2, rfl⟩ : ∃ x : World, x = wc := ⟨_, rfl⟩
    replace bx0 := bx0.next hb
    replace bx3 := bx3.next hb
    replace bx4 := bx4.next hb
    replace hst := hst.next hb
    replace hz := hz.next hb
    replace q1 := q1.next hb
    replace q2 := q2.next hb
    replace hu := hu.next hb
    replace bx5 := bx5.next hb
    replace hB := hB.trans (hb.mono hB.size)
    clear hb hold
    go_wp2_with fail
    obtain ⟨dd, hdd⟩ : ∃ d, decide (y ≤ x) = d := ⟨_, rfl⟩
    obtain ⟨RR, hRR⟩ : ∃ d, Hu.rest out inn = d := ⟨_, rfl⟩
    obtain ⟨mm, hmm⟩ : ∃ d, Hu.mixed out inn = d := ⟨_, rfl⟩
    have HDD := Lib.hid hdd; have HRR := Lib.hid hRR; have HMM := Lib.hid hmm; clear hdd hRR hmm
    have e11 : (bb == bb) = true := by simp
    have e12 : (dd == dd) = true := by simp
    have e13 : (mm == mm) = true := by simp
    replace bx0 := bx0.next ((Below.refl _ _).drew)
    replace bx3 := bx3.next ((Below.refl _ _).drew)
    replace bx4 := bx4.next ((Below.refl _ _).drew)
    replace hst := hst.next ((Below.refl _ _).drew)
    replace hz := hz.next ((Below.refl _ _).drew)
    replace q1 := q1.next ((Below.refl _ _).drew)
    replace q2 := q2.next ((Below.refl _ _).drew)
    replace hu := hu.next ((Below.refl _ _).drew)
    replace bx5 := bx5.next ((Below.refl _ _).drew)
    replace bx6 := bx6.next ((Below.refl _ _).drew)
    replace hr := hr.next ((Below.refl _ _).drew)
    replace hB := hB.drew
    have hE := Ext.refl (W2.drew)
    refine region_go 2354481545226 (by kernel_rfl) ?_
    obtain ⟨c0, c1, c2, c3, c4, c5, c6⟩ := seven_cells bx5
    refine wpAny_go 2354481545226 0 [0] 1 43 (by kernel_rfl) (by kernel_rfl) (fun _ _ _ _ _ h => h) (by kernel_rfl) (by rfl) (by rfl) (by kernel_rfl) ?_
    simp only [List.map_cons, List.map_nil, List.getD_cons_zero]
    go_wp2_with fail
    change wpAnyM _ _ _ _ _ _ _ _ _ _
    clear c0 c1 c2 c3 c4 c5 c6
    obtain ⟨c0, c1, c2, c3, c4, c5, c6⟩ := seven_cells bx6
    refine wpAny_reads 2354481545226 1 [2] 5 42 (by kernel_rfl) (by kernel_rfl) (fun _ _ _ _ _ h => h) (by kernel_rfl) (by rfl) (by rfl) (by kernel_rfl) ?_
    simp only [List.map_cons, List.map_nil, List.getD_cons_succ, List.getD_cons_zero]
    go_wp2_with fail
    change _ → wpAnyM _ _ _ _ _ _ _ _ _ _; intro _
    clear c0 c1 c2 c3 c4 c5 c6
    refine wpAny_oneM 1 7 (by kernel_rfl) (by kernel_rfl) (of_decide_eq_true (by kernel_rfl)) (by rfl) ?_
    simp only [List.getD_cons_succ, List.getD_cons_zero]
    go_wp2_with fail
    refine (hueRefq hu).mono ?_
    rintro e w2 ⟨rfl, hb⟩
    replace bx0 := bx0.next hb
    replace bx3 := bx3.next hb
    replace bx4 := bx4.next hb
    replace hst := hst.next hb
    replace hz := hz.next hb
    replace q1 := q1.next hb
    replace q2 := q2.next hb
    replace hu := hu.next hb
    replace bx5 := bx5.next hb
    replace bx6 := bx6.next hb
    replace hr := hr.next hb
    replace hE := hE.trans (Ext.below hb (Nat.le_refl _))
    replace hB := hB.trans (hb.mono hB.size)
    clear hb
    go_wp2_with fail
    refine ⟨fun _ => hE, ?_⟩
    refine wpAny_oneM 3 15 (by kernel_rfl) (by kernel_rfl) (of_decide_eq_true (by kernel_rfl)) (by rfl) ?_
    simp only [List.getD_cons_succ, List.getD_cons_zero]
    go_wp2_with fail
    refine (hsameq (n := 1) hu hr (if_pos ⟨rfl, rfl⟩)).mono ?_
    rintro e w3 ⟨rfl, hb⟩
    replace bx0 := bx0.next hb
    replace bx3 := bx3.next hb
    replace bx4 := bx4.next hb
    replace hst := hst.next hb
    replace hz := hz.next hb
    replace q1 := q1.next hb
    replace q2 := q2.next hb
    replace hu := hu.next hb
    replace bx5 := bx5.next hb
    replace bx6 := bx6.next hb
    replace hr := hr.next hb
    replace hE := hE.trans (Ext.below hb (Nat.le_refl _))
    replace hB := hB.trans (hb.mono hB.size)
    clear hb
    go_wp2_with fail
    refine ⟨fun _ => hE, ?_⟩
    obtain ⟨c0, c1, c2, c3, c4, c5, c6⟩ := seven_cells bx4
    obtain ⟨d0, d1⟩ := two_cells bx0
    refine wpAny_go 2354481545226 15 [4, 5, 6, 7, 8, 9, 10, 11, 12, 13] 16383 30 (by kernel_rfl) (by kernel_rfl) (fun _ _ _ _ _ h => h) (by kernel_rfl) (by rfl) (by rfl) (by kernel_rfl) ?_
    simp only [List.map_cons, List.map_nil, List.getD_cons_succ, List.getD_cons_zero]
    go_wp2_with fail
    change wpAnyM _ _ _ _ _ _ _ _ _ _
    clear c0 c1 c2 c3 c4 c5 c6
    clear d0 d1
    obtain ⟨c0, c1, c2, c3, c4, c5, c6⟩ := seven_cells bx4
    obtain ⟨d0, d1⟩ := two_cells bx0
    refine wpAnyM_rebase hE _ _ _ _ ?_
    clear hE
    have hE := Ext.refl w3
    refine wpAny_reads 2354481545226 16383 [15, 17, 18] 442367 27 (by kernel_rfl) (by kernel_rfl) (fun _ _ _ _ _ h => h) (by kernel_rfl) (by rfl) (by rfl) (by kernel_rfl) ?_
    simp only [List.map_cons, List.map_nil, List.getD_cons_succ, List.getD_cons_zero]
    go_wp2_with fail
    change _ → wpAnyM _ _ _ _ _ _ _ _ _ _; intro _
    clear c0 c1 c2 c3 c4 c5 c6
    clear d0 d1
    refine wpAny_oneM 14 458751 (by kernel_rfl) (by kernel_rfl) (of_decide_eq_true (by kernel_rfl)) (by rfl) ?_
    simp only [List.getD_cons_succ, List.getD_cons_zero]
    go_wp2_with fail
    refine (doneq hz HDD.out).mono ?_
    rintro e w4 ⟨rfl, hb⟩
    replace bx0 := bx0.next hb
    replace bx3 := bx3.next hb
    replace bx4 := bx4.next hb
    replace hst := hst.next hb
    replace hz := hz.next hb
    replace q1 := q1.next hb
    replace q2 := q2.next hb
    replace hu := hu.next hb
    replace bx5 := bx5.next hb
    replace bx6 := bx6.next hb
    replace hr := hr.next hb
    replace hE := hE.trans (Ext.below hb (Nat.le_refl _))
    replace hB := hB.trans (hb.mono hB.size)
    clear hb
    go_wp2_with fail
    refine ⟨fun _ => hE, ?_⟩
    refine wpAny_oneM 16 524287 (by kernel_rfl) (by kernel_rfl) (of_decide_eq_true (by kernel_rfl)) (by rfl) ?_
    simp only [List.getD_cons_succ, List.getD_cons_zero]
    go_wp2_with fail
    refine (hueRefq hz).mono ?_
    rintro e w5 ⟨rfl, hb⟩
    replace bx0 := bx0.next hb
    replace bx3 := bx3.next hb
    replace bx4 := bx4.next hb
    replace hst := hst.next hb
    replace hz := hz.next hb
    replace q1 := q1.next hb
    replace q2 := q2.next hb
    replace hu := hu.next hb
    replace bx5 := bx5.next hb
    replace bx6 := bx6.next hb
    replace hr := hr.next hb
    replace hE := hE.trans (Ext.below hb (Nat.le_refl _))
    replace hB := hB.trans (hb.mono hB.size)
    clear hb
    go_wp2_with fail
    refine ⟨fun _ => hE, ?_⟩
    refine wpAny_oneM 19 1048575 (by kernel_rfl) (by kernel_rfl) (of_decide_eq_true (by kernel_rfl)) (by rfl) ?_
    simp only [List.getD_cons_succ, List.getD_cons_zero]
    go_wp2_with fail
    refine (rdoneq hz HDD.out).mono ?_
    rintro e w6 ⟨rfl, hb⟩
    replace bx0 := bx0.next hb
    replace bx3 := bx3.next hb
    replace bx4 := bx4.next hb
    replace hst := hst.next hb
    replace hz := hz.next hb
    replace q1 := q1.next hb
    replace q2 := q2.next hb
    replace hu := hu.next hb
    replace bx5 := bx5.next hb
    replace bx6 := bx6.next hb
    replace hr := hr.next hb
    replace hE := hE.trans (Ext.below hb (Nat.le_refl _))
    replace hB := hB.trans (hb.mono hB.size)
    clear hb
    go_wp2_with fail
    refine ⟨fun _ => hE, ?_⟩
    refine wpAny_go 2354481545226 1048575 [20, 21, 22, 23, 24] 33554431 19 (by kernel_rfl) (by kernel_rfl) (fun _ _ _ _ _ h => h) (by kernel_rfl) (by rfl) (by rfl) (by kernel_rfl) ?_
    simp only [List.map_cons, List.map_nil, List.getD_cons_succ, List.getD_cons_zero]
    go_wp2_with fail
    change wpAnyM _ _ _ _ _ _ _ _ _ _
    refine wpAnyM_rebase hE _ _ _ _ ?_
    clear hE
    have hE := Ext.refl w6
    refine wpAny_reads 2354481545226 33554431 [26, 27] 234881023 17 (by kernel_rfl) (by kernel_rfl) (fun _ _ _ _ _ h => h) (by kernel_rfl) (by rfl) (by rfl) (by kernel_rfl) ?_
    simp only [List.map_cons, List.map_nil, List.getD_cons_succ, List.getD_cons_zero]
    go_wp2_with fail
    change _ → wpAnyM _ _ _ _ _ _ _ _ _ _; intro _
    refine wpAny_oneM 25 268435455 (by kernel_rfl) (by kernel_rfl) (of_decide_eq_true (by kernel_rfl)) (by rfl) ?_
    simp only [List.getD_cons_succ, List.getD_cons_zero]
    go_wp2_with fail
    refine (restq q1 q2 (by omega) (by omega) hwf HRR.out).mono ?_
    rintro e w7 ⟨⟨R1, r1, rfl, _, z1⟩, hb⟩
    replace bx0 := bx0.next hb
    replace bx3 := bx3.next hb
    replace bx4 := bx4.next hb
    replace hst := hst.next hb
    replace hz := hz.next hb
    replace q1 := q1.next hb
    replace q2 := q2.next hb
    replace hu := hu.next hb
    replace bx5 := bx5.next hb
    replace bx6 := bx6.next hb
    replace hr := hr.next hb
    replace hE := hE.trans (Ext.below hb (Nat.le_refl _))
    replace hB := hB.trans (hb.mono hB.size)
    clear hb
    go_wp2_with fail
    refine ⟨fun _ => hE, ?_⟩
    refine wpAny_oneM 28 536870911 (by kernel_rfl) (by kernel_rfl) (of_decide_eq_true (by kernel_rfl)) (by rfl) ?_
    simp only [List.getD_cons_succ, List.getD_cons_zero]
    go_wp2_with fail
    refine (rrestq q1 q2 (by omega) HRR.out).mono ?_
    rintro e w8 ⟨⟨R2, r2, rfl, _, z2⟩, hb⟩
    replace bx0 := bx0.next hb
    replace bx3 := bx3.next hb
    replace bx4 := bx4.next hb
    replace hst := hst.next hb
    replace hz := hz.next hb
    replace q1 := q1.next hb
    replace q2 := q2.next hb
    replace hu := hu.next hb
    replace bx5 := bx5.next hb
    replace bx6 := bx6.next hb
    replace hr := hr.next hb
    replace z1 := z1.next hb
    replace hE := hE.trans (Ext.below hb (Nat.le_refl _))
    replace hB := hB.trans (hb.mono hB.size)
    clear hb
    replace z1 := z1.soft; replace z2 := (z2.widen (Nat.zero_le _) (Nat.le_refl _)).soft; replace z1 := (z1.widen (Nat.zero_le _) (Nat.le_refl _))
    go_wp2_with fail
    refine ⟨fun _ => hE, ?_⟩
    refine wpAny_oneM 29 1073741823 (by kernel_rfl) (by kernel_rfl) (of_decide_eq_true (by kernel_rfl)) (by rfl) ?_
    simp only [List.getD_cons_succ, List.getD_cons_zero]
    go_wp2_with fail
    refine (msgsq (b := true) z1 z2 (by simp)).mono ?_
    rintro e w9 ⟨rfl, hb⟩
    replace bx0 := bx0.next hb
    replace bx3 := bx3.next hb
    replace bx4 := bx4.next hb
    replace hst := hst.next hb
    replace hz := hz.next hb
    replace q1 := q1.next hb
    replace q2 := q2.next hb
    replace hu := hu.next hb
    replace bx5 := bx5.next hb
    replace bx6 := bx6.next hb
    replace hr := hr.next hb
    replace z1 := z1.next hb
    replace hE := hE.trans (Ext.below hb (Nat.le_refl _))
    replace hB := hB.trans (hb.mono hB.size)
    clear hb
    clear z2
    go_wp2_with fail
    refine ⟨fun _ => hE, ?_⟩
    refine wpAny_go 2354481545226 1073741823 [30, 31, 32, 33] 17179869183 10 (by kernel_rfl) (by kernel_rfl) (fun _ _ _ _ _ h => h) (by kernel_rfl) (by rfl) (by rfl) (by kernel_rfl) ?_
    simp only [List.map_cons, List.map_nil, List.getD_cons_succ, List.getD_cons_zero]
    go_wp2_with fail
    change wpAnyM _ _ _ _ _ _ _ _ _ _
    refine wpAnyM_rebase hE _ _ _ _ ?_
    clear hE
    have hE := Ext.refl w9
    refine wpAny_reads 2354481545226 17179869183 [35, 36] 120259084287 8 (by kernel_rfl) (by kernel_rfl) (fun _ _ _ _ _ h => h) (by kernel_rfl) (by rfl) (by rfl) (by kernel_rfl) ?_
    simp only [List.map_cons, List.map_nil, List.getD_cons_succ, List.getD_cons_zero]
    go_wp2_with fail
    change _ → wpAnyM _ _ _ _ _ _ _ _ _ _; intro _
    refine wpAny_oneM 34 137438953471 (by kernel_rfl) (by kernel_rfl) (of_decide_eq_true (by kernel_rfl)) (by rfl) ?_
    simp only [List.getD_cons_succ, List.getD_cons_zero]
    go_wp2_with fail
    refine (mixedq q1 q2 (by omega) (by omega) hwf HMM.out).mono ?_
    rintro e w10 ⟨rfl, hb⟩
    replace bx0 := bx0.next hb
    replace bx3 := bx3.next hb
    replace bx4 := bx4.next hb
    replace hst := hst.next hb
    replace hz := hz.next hb
    replace q1 := q1.next hb
    replace q2 := q2.next hb
    replace hu := hu.next hb
    replace bx5 := bx5.next hb
    replace bx6 := bx6.next hb
    replace hr := hr.next hb
    replace z1 := z1.next hb
    replace hE := hE.trans (Ext.below hb (Nat.le_refl _))
    replace hB := hB.trans (hb.mono hB.size)
    clear hb
    go_wp2_with fail
    refine ⟨fun _ => hE, ?_⟩
    refine wpAny_oneM 37 274877906943 (by kernel_rfl) (by kernel_rfl) (of_decide_eq_true (by kernel_rfl)) (by rfl) ?_
    simp only [List.getD_cons_succ, List.getD_cons_zero]
    go_wp2_with fail
    refine (rmixedq q1 q2 (by omega) hwf HMM.out).mono ?_
    rintro e w11 ⟨rfl, hb⟩
    replace bx0 := bx0.next hb
    replace bx3 := bx3.next hb
    replace bx4 := bx4.next hb
    replace hst := hst.next hb
    replace hz := hz.next hb
    replace q1 := q1.next hb
    replace q2 := q2.next hb
    replace hu := hu.next hb
    replace bx5 := bx5.next hb
    replace bx6 := bx6.next hb
    replace hr := hr.next hb
    replace z1 := z1.next hb
    replace hE := hE.trans (Ext.below hb (Nat.le_refl _))
    replace hB := hB.trans (hb.mono hB.size)
    clear hb
    go_wp2_with fail
    refine ⟨fun _ => hE, ?_⟩
    refine wpAny_go 2354481545226 274877906943 [38, 39, 40] 2199023255551 3 (by kernel_rfl) (by kernel_rfl) (fun _ _ _ _ _ h => h) (by kernel_rfl) (by rfl) (by rfl) (by kernel_rfl) ?_
    simp only [List.map_cons, List.map_nil, List.getD_cons_succ, List.getD_cons_zero]
    go_wp2_with fail
    change wpAnyM _ _ _ _ _ _ _ _ _ _
    refine wpAny_oneM 41 4398046511103 (by kernel_rfl) (by kernel_rfl) (of_decide_eq_true (by kernel_rfl)) (by rfl) ?_
    simp only [List.getD_cons_succ, List.getD_cons_zero]
    go_wp2_with fail
    refine (fixed11_any _).mono ?_
    rintro e w12 ⟨rfl, hb⟩
    replace bx0 := bx0.next hb
    replace bx3 := bx3.next hb
    replace bx4 := bx4.next hb
    replace hst := hst.next hb
    replace hz := hz.next hb
    replace q1 := q1.next hb
    replace q2 := q2.next hb
    replace hu := hu.next hb
    replace bx5 := bx5.next hb
    replace bx6 := bx6.next hb
    replace hr := hr.next hb
    replace z1 := z1.next hb
    replace hE := hE.trans (Ext.below hb (Nat.le_refl _))
    replace hB := hB.trans (hb.mono hB.size)
    clear hb
    go_wp2_with fail
    refine ⟨fun _ => hE, ?_⟩
    refine wpAny_go 2354481545226 4398046511103 [42, 43] 17592186044415 0 (by kernel_rfl) (by kernel_rfl) (fun _ _ _ _ _ h => h) (by kernel_rfl) (by rfl) (by rfl) (by kernel_rfl) ?_
    simp only [List.map_cons, List.map_nil, List.getD_cons_succ, List.getD_cons_zero]
    go_wp2_with fail
    change wpAnyM _ _ _ _ _ _ _ _ _ _
    refine wpAny_endM (by kernel_rfl) (by kernel_rfl) ?_
    go_wp2_with fail
    go_ret
    exact ⟨rfl, hB⟩
end Go.Proofs.Ytmbilaepeekglaa.hueTells
