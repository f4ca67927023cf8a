/- LaneDoes: the walk. -/
import Derived.Test.YtkkbblpofhenpaaS16
namespace Go.Proofs.Ytkkbblpofhenpaa.laneDoes
open Go.RowKit Go.Proofs.Ytkkbblpofhenpaa

theorem wpAny_join {P : Program} {Q : Exit → Act → World → Prop} {md : Region.Mode} {M : Nat} {wM : World} {l : List Oper} (mEnd fuelEnd : Nat) (R : Act → World → Prop) {fuel m : Nat} {a : Act} {w : World} (hend : ∀ a w, R a w → wpAnyM P md l.toArray Q M wM fuelEnd (arrM l.length mEnd) a w) (hfirst : (∀ a w, R a w → wpAnyM P md l.toArray Q M wM fuelEnd (arrM l.length mEnd) a w) → wpAnyM P md l.toArray Q M wM fuel (arrM l.length m) a w) : wpAnyM P md l.toArray Q M wM fuel (arrM l.length m) a w := hfirst hend
theorem name_met {J : Act → World → Prop} {a : Act} {w : World} (h : ∀ W, w = W → Met J a W) : Met J a w := h w rfl
set_option maxRecDepth 100000 in
set_option maxHeartbeats 80000000 in
theorem walk (fi : Bool) (cp : Int) (v2 : Value) (xs : List LOp) (w : World) (h2 : SliceIs Rep.lop false w 0 w.heap.size v2 xs) :
    Calls Try.prog 3 #[.bool fi, .int .i64 cp, v2] w fun x w' => x = .returned (.bool true) ∧ Below w.heap.size w w' := by
  obtain ⟨OA, oc, rfl, hlen, hcap, hat⟩ := h2
  have HAT := Lib.hid (show SliceAt Rep.lop false w 0 w.heap.size OA xs from hat)
  clear hat
  unfold maxLen at hcap
  go_enter Try.func3, Try.ntmps3
  try simp only [List.append_eq, List.cons_append, List.nil_append]
  go_wp2_with fail
  refine name_call fun W0 hW0 => ?_
  have bx0 : Box W0 w.heap.size #[.bool fi, .int .i64 cp, .slice none 0 0] 25 := hW0 ▸ Box.new _ _ _
  have hB : Below w.heap.size w W0 := hW0 ▸ (Below.refl _ _).alloc (Nat.le_refl _) _
  clear hW0
  refine (claref (a := ⟨fi, cp, []⟩) (lanil fi cp _) ⟨Nat.zero_le _, fun f hf => (by cases hf)⟩).mono ?_
  rintro e w1 ⟨⟨RA, rc, rfl, hr⟩, hb⟩
  replace bx0 := bx0.next hb
  replace hB := hB.trans (hb.mono hB.size)
  clear hb
  dsimp only [List.length_nil] at hr ⊢
  have hN1 := bx0.lt
  obtain ⟨q, hq⟩ : ∃ q, La.right ⟨fi, cp, []⟩ = q := ⟨_, rfl⟩
  have HQ := Lib.hid hq; clear hq
  have hqq : (q != q) = false := by simp
  obtain ⟨WR, rfl⟩ : ∃ x : World, x = w1 := ⟨_, rfl⟩
  obtain ⟨d0, d1, d2⟩ := three_cells bx0
  have hl0 := bx0.lt
  go_upto_region 3 with fail
  clear d0 d1 d2
  clear hl0
  refine name_wp fun W3 hW3 => ?_
  have bx1 : Box W3 (WR.heap.size) #[.bool fi, .int .i64 cp, .slice RA 0 rc] 28 := hW3 ▸ (Box.new' #[.bool fi, .int .i64 cp, .slice RA 0 rc] 28 (by simp))
  have hb : Below WR.heap.size WR W3 := hW3 ▸ ((Below.refl _ _).alloc (by first | (simp; done) | (simp; omega)) _)
  clear hW3
  replace bx0 := bx0.next hb
  replace hr := hr.next hb
  replace hB := hB.trans (hb.mono hB.size)
  clear hb
  replace bx0 := bx0.next ((Below.refl _ _).drew)
  replace hr := hr.next ((Below.refl _ _).drew)
  replace bx1 := bx1.next ((Below.refl _ _).drew)
  replace hB := hB.drew
  have hE := Ext.refl (W3.drew)
  refine region_go 10 (by as_aux_lemma => kernel_rfl) ?_
  obtain ⟨d0, d1, d2⟩ := three_cells bx0
  refine wpAny_go 10 0 [0] 1 4 (by as_aux_lemma => kernel_rfl) (by as_aux_lemma => kernel_rfl) (fun _ _ _ _ _ h => h) (by as_aux_lemma => kernel_rfl) (by rfl) (by rfl) (by as_aux_lemma => kernel_rfl) ?_
  simp only [List.map_cons, List.map_nil, List.getD_cons_zero]
  go_wp2_with fail
  change wpAnyM _ _ _ _ _ _ _ _ _ _
  clear d0 d1 d2
  obtain ⟨t0, t1, t2⟩ := three_cells bx1
  refine wpAny_reads 10 1 [2] 5 3 (by as_aux_lemma => kernel_rfl) (by as_aux_lemma => kernel_rfl) (fun _ _ _ _ _ h => h) (by as_aux_lemma => kernel_rfl) (by rfl) (by rfl) (by as_aux_lemma => kernel_rfl) ?_
  simp only [List.map_cons, List.map_nil, List.getD_cons_succ, List.getD_cons_zero]
  go_wp2_with fail
  change _ → wpAnyM _ _ _ _ _ _ _ _ _ _; intro _
  clear t0 t1 t2
  refine wpAny_oneM 1 7 (by as_aux_lemma => kernel_rfl) (by as_aux_lemma => kernel_rfl) (of_decide_eq_true (by as_aux_lemma => kernel_rfl)) (by rfl) ?_
  simp only [List.getD_cons_succ, List.getD_cons_zero]
  go_wp2_with fail
  refine (claright (a := ⟨fi, cp, []⟩) (lanil fi cp _) (Nat.zero_le _) HQ.out).mono ?_
  rintro e w2 ⟨rfl, hb⟩
  replace bx0 := bx0.next hb
  replace hr := hr.next hb
  replace bx1 := bx1.next hb
  replace hE := hE.trans (Ext.below hb (Nat.le_refl _))
  replace hB := hB.trans (hb.mono hB.size)
  clear hb
  go_wp2_with fail
  refine ⟨fun _ => hE, ?_⟩
  refine wpAny_oneM 3 15 (by as_aux_lemma => kernel_rfl) (by as_aux_lemma => kernel_rfl) (of_decide_eq_true (by as_aux_lemma => kernel_rfl)) (by rfl) ?_
  simp only [List.getD_cons_succ, List.getD_cons_zero]
  go_wp2_with fail
  refine (craright hr HQ.out).mono ?_
  rintro e w3 ⟨rfl, hb⟩
  replace bx0 := bx0.next hb
  replace hr := hr.next hb
  replace bx1 := bx1.next hb
  replace hE := hE.trans (Ext.below hb (Nat.le_refl _))
  replace hB := hB.trans (hb.mono hB.size)
  clear hb
  go_wp2_with fail
  refine ⟨fun _ => hE, ?_⟩
  refine wpAny_go 10 15 [4] 31 0 (by as_aux_lemma => kernel_rfl) (by as_aux_lemma => kernel_rfl) (fun _ _ _ _ _ h => h) (by as_aux_lemma => kernel_rfl) (by rfl) (by rfl) (by as_aux_lemma => kernel_rfl) ?_
  simp only [List.map_cons, List.map_nil, List.getD_cons_succ, List.getD_cons_zero]
  go_wp2_with fail
  change wpAnyM _ _ _ _ _ _ _ _ _ _
  refine wpAny_endM (by as_aux_lemma => kernel_rfl) (by as_aux_lemma => kernel_rfl) ?_
  obtain ⟨WL, rfl⟩ : ∃ x : World, x = w3 := ⟨_, rfl⟩
  have HG8 := Lib.hid (And.intro hN1 bx1.lt)
  clear hN1
  go_wp2_with fail
  go_loopg [9] 60 (fun m iv wr => ∃ (j : Nat) (a : La) (UA VA : Option Addr) (uc vc : Nat), iv = .int .i64 (j : Int) ∧ j ≤ xs.length ∧ j ≤ 60 ∧ m = 60 - j ∧ a.Small ∧ Box wr w.heap.size #[.bool a.fifo, .int .i64 a.cap, .slice UA a.l.length uc] 25 ∧ Box wr WR.heap.size #[.bool a.fifo, .int .i64 a.cap, .slice VA a.l.length vc] 28 ∧ LaIs false wr WL.heap.size wr.heap.size (.agg #[.bool a.fifo, .int .i64 a.cap, .slice UA a.l.length uc]) a ∧ LaIs false wr WL.heap.size wr.heap.size (.agg #[.bool a.fifo, .int .i64 a.cap, .slice VA a.l.length vc]) a ∧ WL.heap.size ≤ wr.heap.size ∧ Below w.heap.size w wr)
  case atStart => exact ⟨0, ⟨fi, cp, []⟩, none, RA, 0, rc, rfl, by omega, by omega, by omega, ⟨Nat.zero_le _, fun f hf => (by cases hf)⟩, bx0, bx1, ⟨none, 0, rfl, SliceIs.none_⟩, la_nil hr, Nat.le_refl _, hB⟩
  case round =>
    clear bx0 bx1 hr hB
    obtain ⟨j, a, UA, VA, uc, vc, rfl, hj, hj60, hm, hsm, bx0, bx1, ha, hr, hlo, hB⟩ := hrel
    have HM := Lib.hid hm; have HSM := Lib.hid hsm; clear hm hsm
    obtain ⟨qr, hqr⟩ : ∃ q, La.right a = q := ⟨_, rfl⟩
    have HQR := Lib.hid hqr; clear hqr
    have HA0 := Lib.hid ha; have HR0 := Lib.hid hr
    have hBr := Since.refl wr
    by_cases hlt : j < xs.length
    ·
      by_cases h60 : j < 60
      ·
        have h60i : (j : Int) < 60 := by omega
        have hr0 := hr.zero_
        obtain ⟨d0, d1, d2⟩ := three_cells bx1
        have hl0 := bx1.lt
        go_wp2_with fail
        clear d0 d1 d2
        clear hl0
        refine (craright hr0 HQR.out).mono ?_
        rintro e w1 ⟨rfl, hb⟩
        replace bx0 := bx0.next hb
        replace bx1 := bx1.next hb
        replace ha := ha.next hb
        replace hr := hr.next hb
        replace hBr := hBr.next hb
        replace hB := hB.trans (hb.mono hB.size)
        clear hb
        clear hr0
        cases hqv : qr with
        | false =>
          go_wp2_with fail
          refine (fixed8_any _).mono ?_
          rintro e wz ⟨rfl, hb⟩
          replace hB := hB.trans (hb.mono hB.size)
          go_wp2_with fail
          go_ret
          exact ⟨rfl, hB⟩
        | true =>
          subst hqv
          obtain ⟨x, hx⟩ := Pc.get_at hlt
          obtain ⟨g, ao, oA, oB, ok, ol, hA, hg, hc0, hcf, hci, hfo, hwf⟩ := HAT.out.lop hx
          subst hA
          have HC0 := Lib.hid hc0; have HCI := Lib.hid hci; have HX := Lib.hid hx; have HWF := Lib.hid hwf; clear hc0 hci hx hwf
          have hfi : FrIs false w 0 w.heap.size _ _ := hfo.rng_ (fun _ q => q)
          obtain ⟨P1, hP1⟩ : ∃ P, Fr.cut x.f = P := ⟨_, rfl⟩
          have hs1 : P1.Small := hP1 ▸ Fr.cut_small _
          have HP1 := Lib.hid hP1; have HS1 := Lib.hid hs1; clear hP1 hs1 hfo
          have c0 := (cell_of_block (hB.block g hg)).trans (hcf 0 _ rfl)
          have c1 := (cell_of_block (hB.block g hg)).trans (hcf 1 _ rfl)
          have c2 := (cell_of_block (hB.block g hg)).trans (hcf 2 _ rfl)
          have c3 := (cell_of_block (hB.block g hg)).trans (hcf 3 _ rfl)
          have c4 := (cell_of_block (hB.block g hg)).trans (hcf 4 _ rfl)
          have c5 := (cell_of_block (hB.block g hg)).trans (hcf 5 _ rfl)
          have c6 := (cell_of_block (hB.block g hg)).trans (hcf 6 _ rfl)
          have c7 := (cell_of_block (hB.block g hg)).trans (hcf 7 _ rfl)
          have c8 := (cell_of_block (hB.block g hg)).trans (hcf 8 _ rfl)
          have hgc : g < w1.heap.size := Nat.lt_of_lt_of_le hg hB.size
          simp only [Nat.add_zero] at c0
          clear hcf
          have hfk := (hfi.keep (fun b _ q => hB.block b q)).widen (Nat.le_refl _) hB.size
          clear hfi
          go_wp2_with fail
          clear c0 c1 c2 c3 c4 c5 c6 c7 c8
          clear hgc
          have hlo1 := Nat.le_trans hlo hBr.size
          refine (ccut (f := P1) hfk HP1.out).mono ?_
          rintro e w2 ⟨⟨P1A, P1k, P1B, P1l, rfl, hf⟩, hb⟩
          replace bx0 := bx0.next hb
          replace bx1 := bx1.next hb
          replace ha := ha.next hb
          replace hr := hr.next hb
          replace hBr := hBr.next hb
          replace hB := hB.trans (hb.mono hB.size)
          clear hb
          replace hf := hf.soft.widen hlo1 (Nat.le_refl _)
          clear hfk
          obtain ⟨B1, hb1⟩ : ∃ b, La.push a P1 = b := ⟨_, rfl⟩
          obtain ⟨E1, he1⟩ : ∃ n, La.pushE a P1 = n := ⟨_, rfl⟩
          have hbs := La.push_small HSM.out HS1.out
          have hbr := fun (h : La.pushE a P1 = 0) => La.push_right h
          rw [hb1] at hbs hbr
          rw [he1] at hbr
          have HB1 := Lib.hid hb1; have HE1 := Lib.hid he1; have HBS := Lib.hid hbs; have HBR := Lib.hid hbr; clear hb1 he1 hbs hbr
          obtain ⟨d0, d1, d2⟩ := three_cells bx0
          have hl0 := bx0.lt
          go_wp2_with fail
          clear d0 d1 d2
          clear hl0
          refine name_call fun W3a hW3a => ?_
          have bxf : Box W3a (w2.heap.size) #[.int .i64 P1.kind, .int .i64 P1.epoch, .int .i64 P1.seq, .int .i64 P1.letter, .slice P1A P1.pieces.length P1k, .int .i64 P1.init, .int .i64 P1.num, .int .i64 P1.count, .slice P1B P1.path.length P1l] 37 := hW3a ▸ (Box.new' #[.int .i64 P1.kind, .int .i64 P1.epoch, .int .i64 P1.seq, .int .i64 P1.letter, .slice P1A P1.pieces.length P1k, .int .i64 P1.init, .int .i64 P1.num, .int .i64 P1.count, .slice P1B P1.path.length P1l] 37 (by simp))
          have hb : Below w2.heap.size w2 W3a := hW3a ▸ ((Below.refl _ _).alloc (by first | (simp; done) | (simp; omega)) _)
          clear hW3a
          replace bx0 := bx0.next hb
          replace bx1 := bx1.next hb
          replace ha := ha.next hb
          replace hr := hr.next hb
          replace hBr := hBr.next hb
          replace hf := hf.next hb
          replace hB := hB.trans (hb.mono hB.size)
          clear hb
          have hlo3 := Nat.le_trans hlo hBr.size
          refine (cpushI B1 E1 hlo3 ha hf HSM.out.len' HB1.out HE1.out).mono ?_
          rintro e w3 ⟨⟨B1A, B1c, rfl, hx1⟩, hb⟩
          replace bx0 := bx0.next hb
          replace bx1 := bx1.next hb
          replace ha := ha.next hb
          replace hr := hr.next hb
          replace hBr := hBr.next hb
          replace hf := hf.next hb
          replace bxf := bxf.next hb
          replace hB := hB.trans (hb.mono hB.size)
          clear hb
          have hwr3 := hBr.size
          go_upto_region 10 with fail
          refine name_wp fun W10 hW10 => ?_
          have bxx : Box W10 (w3.heap.size) #[.bool B1.fifo, .int .i64 B1.cap, .slice B1A B1.l.length B1c] 25 := hW10 ▸ (Box.new' #[.bool B1.fifo, .int .i64 B1.cap, .slice B1A B1.l.length B1c] 25 (by simp))
          have hb : Below w3.heap.size w3 W10 := hW10 ▸ ((Below.refl _ _).alloc (by first | (simp; done) | (simp; omega)) _)
          clear hW10
          replace bx0 := bx0.next hb
          replace bx1 := bx1.next hb
          replace ha := ha.next hb
          replace hr := hr.next hb
          replace hBr := hBr.next hb
          replace hf := hf.next hb
          replace bxf := bxf.next hb
          replace hx1 := hx1.next hb
          replace hB := hB.trans (hb.mono hB.size)
          clear hb
          have hwx : w3.heap.size < W10.heap.size := bxx.lt
          have HLO := Lib.hid (Nat.le_trans hlo hBr.size); have HA := Lib.hid hr; have HF := Lib.hid hf
          have bxr := bx1; have bxs := bxf
          go_cut [13, 14] (fun u x wx => PushPost 28 W10 WL.heap.size E1 B1 u x wx)
          case first =>
            have hV := (Below.refl W10.heap.size W10).drew
            replace bxr := bxr.next ((Below.refl _ _).drew)
            replace bxs := bxs.next ((Below.refl _ _).drew)
            refine region_go 12 (by as_aux_lemma => kernel_rfl) ?_
            obtain ⟨c0, c1, c2, c3, c4, c5, c6, c7, c8⟩ := nine_cells bxs
            refine wpAny_go 12 0 [1] 2 9 (by as_aux_lemma => kernel_rfl) (by as_aux_lemma => kernel_rfl) (fun _ _ _ _ _ h => h) (by as_aux_lemma => kernel_rfl) (by rfl) (by rfl) (by as_aux_lemma => kernel_rfl) ?_
            simp only [List.map_cons, List.map_nil, List.getD_cons_succ, List.getD_cons_zero]
            go_wp2_with fail
            change wpAnyM _ _ _ _ _ _ _ _ _ _
            clear c0 c1 c2 c3 c4 c5 c6 c7 c8
            obtain ⟨c0, c1, c2⟩ := three_cells bxr
            refine wpAny_reads 12 2 [0] 3 8 (by as_aux_lemma => kernel_rfl) (by as_aux_lemma => kernel_rfl) (fun _ _ _ _ _ h => h) (by as_aux_lemma => kernel_rfl) (by rfl) (by rfl) (by as_aux_lemma => kernel_rfl) ?_
            simp only [List.map_cons, List.map_nil, List.getD_cons_zero]
            go_wp2_with fail
            change _ → wpAnyM _ _ _ _ _ _ _ _ _ _; intro _
            clear c0 c1 c2
            refine name_any fun y0 hy => ?_
            have s0 : W10.heap.size ≤ y0.heap.size := by rw [← hy]; simp
            rw [hy] at hV
            clear hy bxr bxs
            refine wpAny_twoM 2 7 7 131 (by as_aux_lemma => kernel_rfl) (by as_aux_lemma => kernel_rfl) (of_decide_eq_true (by as_aux_lemma => kernel_rfl)) (of_decide_eq_true (by as_aux_lemma => kernel_rfl)) (by rfl) (by rfl) ?_ ?_
            ·
              simp only [List.getD_cons_succ, List.getD_cons_zero]
              go_wp2_with fail
              refine (cref3 (lo := WL.heap.size) (hi := W10.heap.size) s0 (HF.out.keep fun _ _ q => hV.block _ q) HS1.out).mono ?_
              rintro e y1 ⟨⟨RA, rk, RB, rl, rfl, hr⟩, hh⟩
              replace hV := hV.trans (hh.mono s0)
              have s1 := Nat.le_trans s0 hh.size
              clear hh
              go_wp2_with fail
              refine ⟨fun _ => Ext.below (below_drewL hV) (Nat.le_refl _), ?_⟩
              refine wpAny_twoM 3 7 15 135 (by as_aux_lemma => kernel_rfl) (by as_aux_lemma => kernel_rfl) (of_decide_eq_true (by as_aux_lemma => kernel_rfl)) (of_decide_eq_true (by as_aux_lemma => kernel_rfl)) (by rfl) (by rfl) ?_ ?_
              ·
                simp only [List.getD_cons_succ, List.getD_cons_zero]
                go_wp2_with fail
                refine (crpushI B1 E1 (Nat.le_trans HLO.out s1) ((HA.out.keep fun _ _ q => hV.block _ q).widen (Nat.le_refl _) s1) (hr.rng_ (fun _ q => q.elim (fun q => ⟨q.1, Nat.lt_of_lt_of_le q.2 s1⟩) (fun q => ⟨Nat.le_trans (Nat.le_trans HLO.out s0) q.1, q.2⟩))) HSM.out.len' HB1.out HE1.out).mono ?_
                rintro e y2 ⟨⟨LC, lc, rfl, hu⟩, hh⟩
                replace hV := hV.trans (hh.mono s1)
                have s2 := Nat.le_trans s1 hh.size
                clear hh
                go_wp2_with fail
                refine ⟨fun _ => Ext.below (below_drewL hV) (Nat.le_refl _), ?_⟩
                refine wpAny_go 12 15 [4, 5] 63 4 (by as_aux_lemma => kernel_rfl) (by as_aux_lemma => kernel_rfl) (fun _ _ _ _ _ h => h) (by as_aux_lemma => kernel_rfl) (by rfl) (by rfl) (by as_aux_lemma => kernel_rfl) ?_
                simp only [List.map_cons, List.map_nil, List.getD_cons_succ, List.getD_cons_zero]
                go_wp2_with fail
                change wpAnyM _ _ _ _ _ _ _ _ _ _
                refine wpAny_takeM 6 rfl (by as_aux_lemma => kernel_rfl) (by rfl : 63 ||| 2 ^ 6 = 127) (by as_aux_lemma => kernel_rfl) (by as_aux_lemma => kernel_rfl) (by as_aux_lemma => kernel_rfl) (by as_aux_lemma => kernel_rfl) (fun _ _ _ h => h) (.inl ⟨by rfl, fun w => by (go_simp; try with_reducible rfl)⟩) ?_
                refine wpAny_oneM 7 255 (by as_aux_lemma => kernel_rfl) (by as_aux_lemma => kernel_rfl) (of_decide_eq_true (by as_aux_lemma => kernel_rfl)) (by rfl) ?_
                simp only [List.getD_cons_succ, List.getD_cons_zero]
                go_wp2_with fail
                refine ⟨fun h => absurd h (by decide), name_any fun y3 hw => ?_⟩
                have hg : Box y3 y2.heap.size #[.bool false, .int .i64 0, .slice none 0 0] 28 := hw ▸ Box.new _ _ _
                have hh : Below y2.heap.size y2 y3 := hw ▸ (Below.refl _ _).alloc (Nat.le_refl _) _
                have z3 : y2.heap.size < y3.heap.size := hw ▸ (by simp)
                clear hw
                replace hu := hu.out_new hh
                replace hV := hV.trans (hh.mono s2)
                have s3 := Nat.le_trans s2 hh.size
                clear hh
                obtain ⟨d0, d1, d2⟩ := three_cells hg
                have df0 := three_free hg 0
                have df1 := three_free hg 1
                have df2 := three_free hg 2
                have hgl := hg.lt
                refine wpAny_go 12 255 [8, 9] 1023 0 (by as_aux_lemma => kernel_rfl) (by as_aux_lemma => kernel_rfl) (fun _ _ _ _ _ h => h) (by as_aux_lemma => kernel_rfl) (by rfl) (by rfl) (by as_aux_lemma => kernel_rfl) ?_
                simp only [List.map_cons, List.map_nil, List.getD_cons_succ, List.getD_cons_zero]
                go_wp2_with fail
                change wpAnyM _ _ _ _ _ _ _ _ _ _
                clear d0 d1 d2
                clear df0 df1 df2
                refine wpAny_endM (by as_aux_lemma => kernel_rfl) (by as_aux_lemma => kernel_rfl) ?_
                go_wp2_with fail
                go_meet
                exact PushPost.mk_ hg hu s2 hV
              ·
                simp only [List.getD_cons_succ, List.getD_cons_zero]
                go_wp2_with fail
                refine ⟨fun h => absurd h (by decide), name_any fun y2 hw => ?_⟩
                have hg : Box y2 y1.heap.size #[.bool false, .int .i64 0, .slice none 0 0] 28 := hw ▸ Box.new _ _ _
                have hh : Below y1.heap.size y1 y2 := hw ▸ (Below.refl _ _).alloc (Nat.le_refl _) _
                have z2 : y1.heap.size < y2.heap.size := hw ▸ (by simp)
                clear hw
                replace hr := FrIs.out_new (hr.rng_ (lo := WL.heap.size) (fun _ q => q.elim (fun q => ⟨q.1, Nat.lt_of_lt_of_le q.2 s1⟩) (fun q => ⟨Nat.le_trans (Nat.le_trans HLO.out s0) q.1, q.2⟩))) hh
                replace hV := hV.trans (hh.mono s1)
                have s2 := Nat.le_trans s1 hh.size
                clear hh
                refine wpAny_oneM 3 143 (by as_aux_lemma => kernel_rfl) (by as_aux_lemma => kernel_rfl) (of_decide_eq_true (by as_aux_lemma => kernel_rfl)) (by rfl) ?_
                simp only [List.getD_cons_succ, List.getD_cons_zero]
                go_wp2_with fail
                refine (crpushO B1 E1 (Nat.le_trans HLO.out s2) hg.lt ((HA.out.keep fun _ _ q => hV.block _ q).out_low s1 s2) hr HSM.out.len' HB1.out HE1.out).mono ?_
                rintro e y3 ⟨⟨LC, lc, rfl, hu⟩, hh⟩
                replace hg := hg.next hh
                replace hV := hV.trans (hh.mono s2)
                have s3 := Nat.le_trans s2 hh.size
                clear hh
                go_wp2_with fail
                refine ⟨fun _ => Ext.below (below_drewL hV) (Nat.le_refl _), ?_⟩
                refine wpAny_go 12 143 [4, 5] 191 3 (by as_aux_lemma => kernel_rfl) (by as_aux_lemma => kernel_rfl) (fun _ _ _ _ _ h => h) (by as_aux_lemma => kernel_rfl) (by rfl) (by rfl) (by as_aux_lemma => kernel_rfl) ?_
                simp only [List.map_cons, List.map_nil, List.getD_cons_succ, List.getD_cons_zero]
                go_wp2_with fail
                change wpAnyM _ _ _ _ _ _ _ _ _ _
                refine wpAny_takeM 6 rfl (by as_aux_lemma => kernel_rfl) (by rfl : 191 ||| 2 ^ 6 = 255) (by as_aux_lemma => kernel_rfl) (by as_aux_lemma => kernel_rfl) (by as_aux_lemma => kernel_rfl) (by as_aux_lemma => kernel_rfl) (fun _ _ _ h => h) (.inl ⟨by rfl, fun w => by (go_simp; try with_reducible rfl)⟩) ?_
                obtain ⟨d0, d1, d2⟩ := three_cells hg
                have df0 := three_free hg 0
                have df1 := three_free hg 1
                have df2 := three_free hg 2
                have hgl := hg.lt
                refine wpAny_go 12 255 [8, 9] 1023 0 (by as_aux_lemma => kernel_rfl) (by as_aux_lemma => kernel_rfl) (fun _ _ _ _ _ h => h) (by as_aux_lemma => kernel_rfl) (by rfl) (by rfl) (by as_aux_lemma => kernel_rfl) ?_
                simp only [List.map_cons, List.map_nil, List.getD_cons_succ, List.getD_cons_zero]
                go_wp2_with fail
                change wpAnyM _ _ _ _ _ _ _ _ _ _
                clear d0 d1 d2
                clear df0 df1 df2
                refine wpAny_endM (by as_aux_lemma => kernel_rfl) (by as_aux_lemma => kernel_rfl) ?_
                go_wp2_with fail
                go_meet
                exact PushPost.mk_ hg hu s1 hV
            ·
              simp only [List.getD_cons_succ, List.getD_cons_zero]
              go_wp2_with fail
              refine ⟨fun h => absurd h (by decide), name_any fun y1 hw => ?_⟩
              have hg : Box y1 y0.heap.size #[.bool false, .int .i64 0, .slice none 0 0] 28 := hw ▸ Box.new _ _ _
              have hh : Below y0.heap.size y0 y1 := hw ▸ (Below.refl _ _).alloc (Nat.le_refl _) _
              have z1 : y0.heap.size < y1.heap.size := hw ▸ (by simp)
              clear hw
              replace hV := hV.trans (hh.mono s0)
              have s1 := Nat.le_trans s0 hh.size
              clear hh
              refine wpAny_oneM 2 135 (by as_aux_lemma => kernel_rfl) (by as_aux_lemma => kernel_rfl) (of_decide_eq_true (by as_aux_lemma => kernel_rfl)) (by rfl) ?_
              simp only [List.getD_cons_succ, List.getD_cons_zero]
              go_wp2_with fail
              refine (cref3 (lo := WL.heap.size) (hi := W10.heap.size) s1 (HF.out.keep fun _ _ q => hV.block _ q) HS1.out).mono ?_
              rintro e y2 ⟨⟨RA, rk, RB, rl, rfl, hr⟩, hh⟩
              replace hr : FrOn false y2 (outS y2 WL.heap.size y0.heap.size) _ _ := hr.widen (fun k q => q.elim (fun q => ⟨q.1, Nat.lt_of_lt_of_le q.2 (Nat.le_trans s1 hh.size), by have := q.2; omega⟩) (fun q => ⟨Nat.le_trans (Nat.le_trans HLO.out s1) q.1, q.2, by have := q.1; omega⟩))
              replace hg := hg.next hh
              replace hV := hV.trans (hh.mono s1)
              have s2 := Nat.le_trans s1 hh.size
              clear hh
              go_wp2_with fail
              refine ⟨fun _ => Ext.below (below_drewL hV) (Nat.le_refl _), ?_⟩
              refine wpAny_oneM 3 143 (by as_aux_lemma => kernel_rfl) (by as_aux_lemma => kernel_rfl) (of_decide_eq_true (by as_aux_lemma => kernel_rfl)) (by rfl) ?_
              simp only [List.getD_cons_succ, List.getD_cons_zero]
              go_wp2_with fail
              refine (crpushO B1 E1 (Nat.le_trans HLO.out s2) hg.lt ((HA.out.keep fun _ _ q => hV.block _ q).out_low s0 s2) hr HSM.out.len' HB1.out HE1.out).mono ?_
              rintro e y3 ⟨⟨LC, lc, rfl, hu⟩, hh⟩
              replace hg := hg.next hh
              replace hV := hV.trans (hh.mono s2)
              have s3 := Nat.le_trans s2 hh.size
              clear hh
              go_wp2_with fail
              refine ⟨fun _ => Ext.below (below_drewL hV) (Nat.le_refl _), ?_⟩
              refine wpAny_go 12 143 [4, 5] 191 3 (by as_aux_lemma => kernel_rfl) (by as_aux_lemma => kernel_rfl) (fun _ _ _ _ _ h => h) (by as_aux_lemma => kernel_rfl) (by rfl) (by rfl) (by as_aux_lemma => kernel_rfl) ?_
              simp only [List.map_cons, List.map_nil, List.getD_cons_succ, List.getD_cons_zero]
              go_wp2_with fail
              change wpAnyM _ _ _ _ _ _ _ _ _ _
              refine wpAny_takeM 6 rfl (by as_aux_lemma => kernel_rfl) (by rfl : 191 ||| 2 ^ 6 = 255) (by as_aux_lemma => kernel_rfl) (by as_aux_lemma => kernel_rfl) (by as_aux_lemma => kernel_rfl) (by as_aux_lemma => kernel_rfl) (fun _ _ _ h => h) (.inl ⟨by rfl, fun w => by (go_simp; try with_reducible rfl)⟩) ?_
              obtain ⟨d0, d1, d2⟩ := three_cells hg
              have df0 := three_free hg 0
              have df1 := three_free hg 1
              have df2 := three_free hg 2
              have hgl := hg.lt
              refine wpAny_go 12 255 [8, 9] 1023 0 (by as_aux_lemma => kernel_rfl) (by as_aux_lemma => kernel_rfl) (fun _ _ _ _ _ h => h) (by as_aux_lemma => kernel_rfl) (by rfl) (by rfl) (by as_aux_lemma => kernel_rfl) ?_
              simp only [List.map_cons, List.map_nil, List.getD_cons_succ, List.getD_cons_zero]
              go_wp2_with fail
              change wpAnyM _ _ _ _ _ _ _ _ _ _
              clear d0 d1 d2
              clear df0 df1 df2
              refine wpAny_endM (by as_aux_lemma => kernel_rfl) (by as_aux_lemma => kernel_rfl) ?_
              go_wp2_with fail
              go_meet
              exact PushPost.mk_ hg hu s0 hV
          case rest =>
            obtain ⟨gy, SA, Sc, rfl, rfl, bxy, hy1, hgy, hb⟩ := hcut
            obtain ⟨W11, rfl⟩ : ∃ x : World, x = wc := ⟨_, rfl⟩
            clear HA HF HLO bxr bxs hlo3 hlo1
            replace bx0 := bx0.next hb
            replace bx1 := bx1.next hb
            replace ha := ha.next hb
            replace hr := hr.next hb
            replace hBr := hBr.next hb
            replace hf := hf.next hb
            replace bxf := bxf.next hb
            replace hx1 := hx1.next hb
            replace bxx := bxx.next hb
            replace hB := hB.trans (hb.mono hB.size)
            clear hb bxf hf
            have HXY := Lib.hid (show (wr.heap.size ≤ w3.heap.size ∧ w3.heap.size < W11.heap.size) ∧ (wr.heap.size ≤ gy ∧ gy < W11.heap.size) ∧ w3.heap.size ≠ gy from ⟨⟨hwr3, bxx.lt⟩, ⟨by omega, bxy.lt⟩, by omega⟩)
            clear hgy hwx hwr3
            have c0 := (cell_of_block (hB.block g hg)).trans HC0.out
            have hgc : g < W11.heap.size := Nat.lt_of_lt_of_le hg hB.size
            go_upto_if 69 with fail
            clear c0 hgc
            go_cut [12, 14] (fun ev gv wx => ∃ (X : La) (E : Int) (XA YA : Option Addr) (Xc Yc : Nat), ev = .int .i64 E ∧ gv = .int .i64 E ∧ X.Small ∧ (E = 0 → La.right X = true) ∧ Box wx w3.heap.size #[.bool X.fifo, .int .i64 X.cap, .slice XA X.l.length Xc] 25 ∧ Box wx gy #[.bool X.fifo, .int .i64 X.cap, .slice YA X.l.length Yc] 28 ∧ LaIs false wx WL.heap.size wx.heap.size (.agg #[.bool X.fifo, .int .i64 X.cap, .slice XA X.l.length Xc]) X ∧ LaIs false wx WL.heap.size wx.heap.size (.agg #[.bool X.fifo, .int .i64 X.cap, .slice YA X.l.length Yc]) X ∧ Box wx w.heap.size #[.bool a.fifo, .int .i64 a.cap, .slice UA a.l.length uc] 25 ∧ Box wx (WR.heap.size) #[.bool a.fifo, .int .i64 a.cap, .slice VA a.l.length vc] 28 ∧ Since wr wx ∧ Below w.heap.size w wx)
            case first =>
              cases hpx : x.push with
              | true =>
                clear hpx
                go_wp2_with fail
                go_meet
                exact ⟨B1, E1, B1A, SA, B1c, Sc, rfl, rfl, HBS.out, HBR.out, bxx, bxy, hx1, hy1, bx0, bx1, hBr, hB⟩
              | false =>
                clear hpx
                go_upto_region 12 with fail
                clear hx1 hy1
                obtain ⟨F2, hf2⟩ : ∃ b, La.takeF a x.i = b := ⟨_, rfl⟩
                obtain ⟨B2, hb2⟩ : ∃ b, La.take a x.i = b := ⟨_, rfl⟩
                obtain ⟨E2, he2⟩ : ∃ n, La.takeE a x.i = n := ⟨_, rfl⟩
                have hfs := La.takeF_small (i := x.i) HSM.out; have hbs := La.take_small (i := x.i) HSM.out
                have hbr := fun (h : La.takeE a x.i = 0) => La.take_right HQR.out h
                rw [hf2] at hfs; rw [hb2] at hbs hbr; rw [he2] at hbr
                have HF2 := Lib.hid hf2; have HB2 := Lib.hid hb2; have HE2 := Lib.hid he2; have HFS2 := Lib.hid hfs; have HBS2 := Lib.hid hbs; have HBR2 := Lib.hid hbr; clear hf2 hb2 he2 hfs hbs hbr
                have HLO := Lib.hid (Nat.le_trans hlo hBr.size); have HH0 := Lib.hid hBr.size
                have HA := Lib.hid (HA0.out.keep fun _ _ q => hBr.block _ q)
                go_cut [15, 16, 17] (fun x y z wx => TakePost 37 25 W11 WL.heap.size wr.heap.size E2 F2 B2 x y z wx)
                case first =>
                  have hV := (Below.refl W11.heap.size W11).drew
                  have bxd := bx0.next ((Below.refl _ _).drew)
                  have ci : W11.drew.cell? ⟨g, ao + j * 11 + 10, none⟩ = some (.int .i64 x.i) := (cell_of_block (hB.drew.block g hg)).trans HCI.out
                  have hgc : g < W11.drew.heap.size := Nat.lt_of_lt_of_le hg hB.size
                  obtain ⟨d0, d1, d2⟩ := three_cells bxd
                  have hl0 := bxd.lt
                  refine region_go 64 (by as_aux_lemma => kernel_rfl) ?_
                  refine wpAny_go 64 0 [0, 1, 2, 3, 4, 5] 63 10 (by as_aux_lemma => kernel_rfl) (by as_aux_lemma => kernel_rfl) (fun _ _ _ _ _ h => h) (by as_aux_lemma => kernel_rfl) (by rfl) (by rfl) (by as_aux_lemma => kernel_rfl) ?_
                  simp only [List.map_cons, List.map_nil, List.getD_cons_succ, List.getD_cons_zero]
                  go_wp2_with fail
                  change wpAnyM _ _ _ _ _ _ _ _ _ _
                  clear d0 d1 d2 hl0 ci hgc bxd
                  refine name_any fun y0 hy => ?_
                  have s0 : W11.heap.size ≤ y0.heap.size := by rw [← hy]; simp
                  rw [hy] at hV
                  clear hy
                  refine name_act fun A0 hA0 => ?_
                  refine wpAny_join 8191 3 (fun A y => ∃ (g1 g2 : Nat) (PA PB LC : Option Addr) (pk pl lc : Nat) (S : Nat → Prop), A = (((((((A0).put (some 77) (.tuple #[.agg #[.int .i64 F2.kind, .int .i64 F2.epoch, .int .i64 F2.seq, .int .i64 F2.letter, .slice PA F2.pieces.length pk, .int .i64 F2.init, .int .i64 F2.num, .int .i64 F2.count, .slice PB F2.path.length pl], .agg #[.bool B2.fifo, .int .i64 B2.cap, .slice LC B2.l.length lc], .int .i64 E2])).put (some 70) (.tuple #[.agg #[.int .i64 F2.kind, .int .i64 F2.epoch, .int .i64 F2.seq, .int .i64 F2.letter, .slice PA F2.pieces.length pk, .int .i64 F2.init, .int .i64 F2.num, .int .i64 F2.count, .slice PB F2.path.length pl], .agg #[.bool B2.fifo, .int .i64 B2.cap, .slice LC B2.l.length lc], .int .i64 E2])).put (some 78) (.agg #[.int .i64 F2.kind, .int .i64 F2.epoch, .int .i64 F2.seq, .int .i64 F2.letter, .slice PA F2.pieces.length pk, .int .i64 F2.init, .int .i64 F2.num, .int .i64 F2.count, .slice PB F2.path.length pl])).put (some 79) (.agg #[.bool B2.fifo, .int .i64 B2.cap, .slice LC B2.l.length lc])).put (some 80) (.int .i64 E2)).put (some 15) (.pointer (some ⟨g1, 0, none⟩))).put (some 16) (.pointer (some ⟨g2, 0, none⟩)) ∧ Box y g1 #[.int .i64 0, .int .i64 0, .int .i64 0, .int .i64 0, .slice none 0 0, .int .i64 0, .int .i64 0, .int .i64 0, .slice none 0 0] 37 ∧ Box y g2 #[.bool false, .int .i64 0, .slice none 0 0] 25 ∧ g1 ≠ g2 ∧ (∀ q, S q → (rng WL.heap.size wr.heap.size q ∨ W11.heap.size ≤ q) ∧ q < y.heap.size ∧ q ≠ g1 ∧ q ≠ g2) ∧ FrOn false y S (.agg #[.int .i64 F2.kind, .int .i64 F2.epoch, .int .i64 F2.seq, .int .i64 F2.letter, .slice PA F2.pieces.length pk, .int .i64 F2.init, .int .i64 F2.num, .int .i64 F2.count, .slice PB F2.path.length pl]) F2 ∧ LaOn y S (.agg #[.bool B2.fifo, .int .i64 B2.cap, .slice LC B2.l.length lc]) B2 ∧ W11.heap.size ≤ g1 ∧ W11.heap.size ≤ g2 ∧ Below W11.heap.size W11 y ∧ wr.heap.size ≤ y.heap.size) ?_ ?_
                  ·
                    clear hV s0
                    rintro A y ⟨g1, g2, PA, PB, LC, pk, pl, lc, S, hA, hg1, hg2, hne, hS, hp, hu, s1, s2, hV, hh0⟩
                    rw [hA, ← hA0]; clear hA hA0
                    have HSS2 := Lib.hid hS; have HNE := Lib.hid hne; clear hS hne
                    have HG1 := Lib.hid hg1; have HG2 := Lib.hid hg2; have HPP9 := Lib.hid hp; have HUU := Lib.hid hu; have HVV := Lib.hid hV; have HS1 := Lib.hid s1; have HS2 := Lib.hid s2; have HHH := Lib.hid hh0; clear hp hu hV s1 s2 hh0
                    obtain ⟨c0, c1, c2, c3, c4, c5, c6, c7, c8⟩ := nine_cells hg1
                    obtain ⟨g0, g1, g2, g3, g4, g5, g6, g7, g8⟩ := nine_free hg1
                    have hgl := hg1.lt
                    clear hg1 hg2
                    refine wpAny_go 64 8191 [13] 16383 2 (by as_aux_lemma => kernel_rfl) (by as_aux_lemma => kernel_rfl) (fun _ _ _ _ _ h => h) (by as_aux_lemma => kernel_rfl) (by rfl) (by rfl) (by as_aux_lemma => kernel_rfl) ?_
                    simp only [List.map_cons, List.map_nil, List.getD_cons_succ, List.getD_cons_zero]
                    go_wp2_with fail
                    change wpAnyM _ _ _ _ _ _ _ _ _ _
                    clear c0 c1 c2 c3 c4 c5 c6 c7 c8
                    clear g0 g1 g2 g3 g4 g5 g6 g7 g8
                    clear hgl
                    refine name_any fun Y hY => ?_
                    have hg2Y : Box Y g2 #[.bool false, .int .i64 0, .slice none 0 0] 25 := by rw [← hY]; exact (nine_far (Ne.symm HNE.out)).trans HG2.out
                    obtain ⟨d0, d1, d2⟩ := three_cells hg2Y
                    have df0 := three_free hg2Y 0
                    have df1 := three_free hg2Y 1
                    have df2 := three_free hg2Y 2
                    have hgl := hg2Y.lt
                    have HY := Lib.hid hY; clear hY hg2Y
                    refine wpAny_go 64 16383 [14, 15] 65535 0 (by as_aux_lemma => kernel_rfl) (by as_aux_lemma => kernel_rfl) (fun _ _ _ _ _ h => h) (by as_aux_lemma => kernel_rfl) (by rfl) (by rfl) (by as_aux_lemma => kernel_rfl) ?_
                    simp only [List.map_cons, List.map_nil, List.getD_cons_succ, List.getD_cons_zero]
                    go_wp2_with fail
                    change wpAnyM _ _ _ _ _ _ _ _ _ _
                    clear d0 d1 d2
                    clear df0 df1 df2
                    clear hgl
                    refine wpAny_endM (by as_aux_lemma => kernel_rfl) (by as_aux_lemma => kernel_rfl) ?_
                    go_wp2_with fail
                    go_meet
                    have hY := HY.out
                    subst hY
                    exact TakePost.mk_ HG1.out HG2.out HNE.out HSS2.out HHH.out HPP9.out HUU.out HS1.out HS2.out HVV.out
                  ·
                    intro K
                    have KK := Lib.hid K; have HACT := Lib.hid hA0; clear K
                    rw [← hA0]; clear hA0
                    refine wpAny_threeM 6 11 12 127 2111 4159 (by as_aux_lemma => kernel_rfl) (by as_aux_lemma => kernel_rfl) (of_decide_eq_true (by as_aux_lemma => kernel_rfl)) (of_decide_eq_true (by as_aux_lemma => kernel_rfl)) (of_decide_eq_true (by as_aux_lemma => kernel_rfl)) (by rfl) (by rfl) (by rfl) ?_ ?_ ?_
                    ·
                      simp only [List.getD_cons_succ, List.getD_cons_zero]
                      go_wp2_with fail
                      refine (ctake (rng WL.heap.size wr.heap.size) F2 B2 E2 x.i (fun _ q => Nat.lt_of_lt_of_le q.2 (Nat.le_trans HH0.out s0)) (HA.out.keep fun _ _ q => hV.block _ (Nat.lt_of_lt_of_le q HH0.out)).on HSM.out.len HF2.out HB2.out HE2.out).mono ?_
                      rintro e y1 ⟨⟨PA, pk, PB, pl, LC, lc, rfl, hp, hu⟩, hh⟩
                      replace hu := hu.on
                      replace hp : FrOn false y1 (also (rng WL.heap.size wr.heap.size) y0.heap.size y1.heap.size) _ _ := hp.widen (fun _ q => .inl q)
                      replace hV := hV.trans (hh.mono s0)
                      have m1 := hh.size
                      have s1 := Nat.le_trans s0 hh.size
                      have t1 := Nat.le_refl y1.heap.size
                      clear hh
                      go_wp2_with fail
                      refine ⟨fun _ => Ext.below (below_drewL hV) (Nat.le_refl _), ?_⟩
                      refine wpAny_go 64 127 [7, 8] 511 7 (by as_aux_lemma => kernel_rfl) (by as_aux_lemma => kernel_rfl) (fun _ _ _ _ _ h => h) (by as_aux_lemma => kernel_rfl) (by rfl) (by rfl) (by as_aux_lemma => kernel_rfl) ?_
                      simp only [List.map_cons, List.map_nil, List.getD_cons_succ, List.getD_cons_zero]
                      go_wp2_with fail
                      change wpAnyM _ _ _ _ _ _ _ _ _ _
                      refine wpAny_takeM 9 rfl (by as_aux_lemma => kernel_rfl) (by rfl : 511 ||| 2 ^ 9 = 1023) (by as_aux_lemma => kernel_rfl) (by as_aux_lemma => kernel_rfl) (by as_aux_lemma => kernel_rfl) (by as_aux_lemma => kernel_rfl) (fun _ _ _ h => h) (.inl ⟨by rfl, fun w => by (go_simp; try with_reducible rfl)⟩) ?_
                      refine wpAny_takeM 10 rfl (by as_aux_lemma => kernel_rfl) (by rfl : 1023 ||| 2 ^ 10 = 2047) (by as_aux_lemma => kernel_rfl) (by as_aux_lemma => kernel_rfl) (by as_aux_lemma => kernel_rfl) (by as_aux_lemma => kernel_rfl) (fun _ _ _ h => h) (.inl ⟨by rfl, fun w => by (go_simp; try with_reducible rfl)⟩) ?_
                      refine wpAny_twoM 11 12 4095 6143 (by as_aux_lemma => kernel_rfl) (by as_aux_lemma => kernel_rfl) (of_decide_eq_true (by as_aux_lemma => kernel_rfl)) (of_decide_eq_true (by as_aux_lemma => kernel_rfl)) (by rfl) (by rfl) ?_ ?_
                      ·
                        simp only [List.getD_cons_succ, List.getD_cons_zero]
                        go_wp2_with fail
                        refine ⟨fun h => absurd h (by decide), name_any fun y2 hw => ?_⟩
                        have hg1n : Box y2 y1.heap.size #[.int .i64 0, .int .i64 0, .int .i64 0, .int .i64 0, .slice none 0 0, .int .i64 0, .int .i64 0, .int .i64 0, .slice none 0 0] 37 := hw ▸ Box.new _ _ _
                        have hh : Below y1.heap.size y1 y2 := hw ▸ (Below.refl _ _).alloc (Nat.le_refl _) _
                        have m2 : y1.heap.size < y2.heap.size := hw ▸ (by simp)
                        clear hw
                        replace hp := hp.keep (fun q hq => hh.block q (hq.elim (fun q => Nat.lt_of_lt_of_le q.2 (Nat.le_trans HH0.out s1)) (fun q => Nat.lt_of_lt_of_le q.2 t1)))
                        replace hu := hu.keep (fun q hq => hh.block q (hq.elim (fun q => Nat.lt_of_lt_of_le q.2 (Nat.le_trans HH0.out s1)) (fun q => Nat.lt_of_lt_of_le q.2 t1)))
                        have t2 := Nat.le_trans t1 hh.size
                        have hg1 := hg1n; clear hg1n
                        replace hV := hV.trans (hh.mono s1)
                        have s2 := Nat.le_trans s1 hh.size
                        clear hh
                        refine wpAny_oneM 12 8191 (by as_aux_lemma => kernel_rfl) (by as_aux_lemma => kernel_rfl) (of_decide_eq_true (by as_aux_lemma => kernel_rfl)) (by rfl) ?_
                        simp only [List.getD_cons_succ, List.getD_cons_zero]
                        go_wp2_with fail
                        refine ⟨fun h => absurd h (by decide), name_any fun y3 hw => ?_⟩
                        have hg2n : Box y3 y2.heap.size #[.bool false, .int .i64 0, .slice none 0 0] 25 := hw ▸ Box.new _ _ _
                        have hh : Below y2.heap.size y2 y3 := hw ▸ (Below.refl _ _).alloc (Nat.le_refl _) _
                        have m3 : y2.heap.size < y3.heap.size := hw ▸ (by simp)
                        clear hw
                        replace hg1 := hg1.next hh
                        replace hp := hp.keep (fun q hq => hh.block q (hq.elim (fun q => Nat.lt_of_lt_of_le q.2 (Nat.le_trans HH0.out s2)) (fun q => Nat.lt_of_lt_of_le q.2 t2)))
                        replace hu := hu.keep (fun q hq => hh.block q (hq.elim (fun q => Nat.lt_of_lt_of_le q.2 (Nat.le_trans HH0.out s2)) (fun q => Nat.lt_of_lt_of_le q.2 t2)))
                        have t3 := Nat.le_trans t2 hh.size
                        have hg2 := hg2n; clear hg2n
                        replace hV := hV.trans (hh.mono s2)
                        have s3 := Nat.le_trans s2 hh.size
                        clear hh
                        have hh0 := HH0.out
                        have hS : ∀ q, (also (rng WL.heap.size wr.heap.size) y0.heap.size y1.heap.size) q → (rng WL.heap.size wr.heap.size q ∨ W11.heap.size ≤ q) ∧ q < y3.heap.size ∧ q ≠ y1.heap.size ∧ q ≠ y2.heap.size := fun q hq => hq.elim (fun q => ⟨.inl q, by have := q.2; omega, by have := q.2; omega, by have := q.2; omega⟩) (fun q => ⟨.inr (by have := q.1; omega), by have := q.2; omega, by have := q.1; have := q.2; omega, by have := q.1; have := q.2; omega⟩)
                        have hne : y1.heap.size ≠ y2.heap.size := by omega
                        refine KK.out _ _ ?_
                        refine ⟨y1.heap.size, y2.heap.size, PA, PB, LC, pk, pl, lc, _, ?_, hg1, hg2, hne, hS, hp, hu, s1, s2, hV, Nat.le_trans hh0 s3⟩
                        rw [← HACT.out]
                        go_simp
                      ·
                        simp only [List.getD_cons_succ, List.getD_cons_zero]
                        go_wp2_with fail
                        refine ⟨fun h => absurd h (by decide), name_any fun y2 hw => ?_⟩
                        have hg2n : Box y2 y1.heap.size #[.bool false, .int .i64 0, .slice none 0 0] 25 := hw ▸ Box.new _ _ _
                        have hh : Below y1.heap.size y1 y2 := hw ▸ (Below.refl _ _).alloc (Nat.le_refl _) _
                        have m2 : y1.heap.size < y2.heap.size := hw ▸ (by simp)
                        clear hw
                        replace hp := hp.keep (fun q hq => hh.block q (hq.elim (fun q => Nat.lt_of_lt_of_le q.2 (Nat.le_trans HH0.out s1)) (fun q => Nat.lt_of_lt_of_le q.2 t1)))
                        replace hu := hu.keep (fun q hq => hh.block q (hq.elim (fun q => Nat.lt_of_lt_of_le q.2 (Nat.le_trans HH0.out s1)) (fun q => Nat.lt_of_lt_of_le q.2 t1)))
                        have t2 := Nat.le_trans t1 hh.size
                        have hg2 := hg2n; clear hg2n
                        replace hV := hV.trans (hh.mono s1)
                        have s2 := Nat.le_trans s1 hh.size
                        clear hh
                        refine wpAny_oneM 11 8191 (by as_aux_lemma => kernel_rfl) (by as_aux_lemma => kernel_rfl) (of_decide_eq_true (by as_aux_lemma => kernel_rfl)) (by rfl) ?_
                        simp only [List.getD_cons_succ, List.getD_cons_zero]
                        go_wp2_with fail
                        refine ⟨fun h => absurd h (by decide), name_any fun y3 hw => ?_⟩
                        have hg1n : Box y3 y2.heap.size #[.int .i64 0, .int .i64 0, .int .i64 0, .int .i64 0, .slice none 0 0, .int .i64 0, .int .i64 0, .int .i64 0, .slice none 0 0] 37 := hw ▸ Box.new _ _ _
                        have hh : Below y2.heap.size y2 y3 := hw ▸ (Below.refl _ _).alloc (Nat.le_refl _) _
                        have m3 : y2.heap.size < y3.heap.size := hw ▸ (by simp)
                        clear hw
                        replace hg2 := hg2.next hh
                        replace hp := hp.keep (fun q hq => hh.block q (hq.elim (fun q => Nat.lt_of_lt_of_le q.2 (Nat.le_trans HH0.out s2)) (fun q => Nat.lt_of_lt_of_le q.2 t2)))
                        replace hu := hu.keep (fun q hq => hh.block q (hq.elim (fun q => Nat.lt_of_lt_of_le q.2 (Nat.le_trans HH0.out s2)) (fun q => Nat.lt_of_lt_of_le q.2 t2)))
                        have t3 := Nat.le_trans t2 hh.size
                        have hg1 := hg1n; clear hg1n
                        replace hV := hV.trans (hh.mono s2)
                        have s3 := Nat.le_trans s2 hh.size
                        clear hh
                        have hh0 := HH0.out
                        have hS : ∀ q, (also (rng WL.heap.size wr.heap.size) y0.heap.size y1.heap.size) q → (rng WL.heap.size wr.heap.size q ∨ W11.heap.size ≤ q) ∧ q < y3.heap.size ∧ q ≠ y2.heap.size ∧ q ≠ y1.heap.size := fun q hq => hq.elim (fun q => ⟨.inl q, by have := q.2; omega, by have := q.2; omega, by have := q.2; omega⟩) (fun q => ⟨.inr (by have := q.1; omega), by have := q.2; omega, by have := q.1; have := q.2; omega, by have := q.1; have := q.2; omega⟩)
                        have hne : y2.heap.size ≠ y1.heap.size := by omega
                        refine KK.out _ _ ?_
                        refine ⟨y2.heap.size, y1.heap.size, PA, PB, LC, pk, pl, lc, _, ?_, hg1, hg2, hne, hS, hp, hu, s2, s1, hV, Nat.le_trans hh0 s3⟩
                        rw [← HACT.out]
                        go_simp
                    ·
                      simp only [List.getD_cons_succ, List.getD_cons_zero]
                      go_wp2_with fail
                      refine ⟨fun h => absurd h (by decide), name_any fun y1 hw => ?_⟩
                      have hg1n : Box y1 y0.heap.size #[.int .i64 0, .int .i64 0, .int .i64 0, .int .i64 0, .slice none 0 0, .int .i64 0, .int .i64 0, .int .i64 0, .slice none 0 0] 37 := hw ▸ Box.new _ _ _
                      have hh : Below y0.heap.size y0 y1 := hw ▸ (Below.refl _ _).alloc (Nat.le_refl _) _
                      have m1 : y0.heap.size < y1.heap.size := hw ▸ (by simp)
                      clear hw
                      have hg1 := hg1n; clear hg1n
                      replace hV := hV.trans (hh.mono s0)
                      have s1 := Nat.le_trans s0 hh.size
                      clear hh
                      refine wpAny_twoM 6 12 2175 6207 (by as_aux_lemma => kernel_rfl) (by as_aux_lemma => kernel_rfl) (of_decide_eq_true (by as_aux_lemma => kernel_rfl)) (of_decide_eq_true (by as_aux_lemma => kernel_rfl)) (by rfl) (by rfl) ?_ ?_
                      ·
                        simp only [List.getD_cons_succ, List.getD_cons_zero]
                        go_wp2_with fail
                        refine (ctake (rng WL.heap.size wr.heap.size) F2 B2 E2 x.i (fun _ q => Nat.lt_of_lt_of_le q.2 (Nat.le_trans HH0.out s1)) (HA.out.keep fun _ _ q => hV.block _ (Nat.lt_of_lt_of_le q HH0.out)).on HSM.out.len HF2.out HB2.out HE2.out).mono ?_
                        rintro e y2 ⟨⟨PA, pk, PB, pl, LC, lc, rfl, hp, hu⟩, hh⟩
                        replace hu := hu.on
                        replace hp : FrOn false y2 (also (rng WL.heap.size wr.heap.size) y1.heap.size y2.heap.size) _ _ := hp.widen (fun _ q => .inl q)
                        replace hg1 := hg1.next hh
                        replace hV := hV.trans (hh.mono s1)
                        have m2 := hh.size
                        have s2 := Nat.le_trans s1 hh.size
                        have t2 := Nat.le_refl y2.heap.size
                        clear hh
                        go_wp2_with fail
                        refine ⟨fun _ => Ext.below (below_drewL hV) (Nat.le_refl _), ?_⟩
                        refine wpAny_go 64 2175 [7, 8] 2559 6 (by as_aux_lemma => kernel_rfl) (by as_aux_lemma => kernel_rfl) (fun _ _ _ _ _ h => h) (by as_aux_lemma => kernel_rfl) (by rfl) (by rfl) (by as_aux_lemma => kernel_rfl) ?_
                        simp only [List.map_cons, List.map_nil, List.getD_cons_succ, List.getD_cons_zero]
                        go_wp2_with fail
                        change wpAnyM _ _ _ _ _ _ _ _ _ _
                        refine wpAny_takeM 9 rfl (by as_aux_lemma => kernel_rfl) (by rfl : 2559 ||| 2 ^ 9 = 3071) (by as_aux_lemma => kernel_rfl) (by as_aux_lemma => kernel_rfl) (by as_aux_lemma => kernel_rfl) (by as_aux_lemma => kernel_rfl) (fun _ _ _ h => h) (.inl ⟨by rfl, fun w => by (go_simp; try with_reducible rfl)⟩) ?_
                        refine wpAny_takeM 10 rfl (by as_aux_lemma => kernel_rfl) (by rfl : 3071 ||| 2 ^ 10 = 4095) (by as_aux_lemma => kernel_rfl) (by as_aux_lemma => kernel_rfl) (by as_aux_lemma => kernel_rfl) (by as_aux_lemma => kernel_rfl) (fun _ _ _ h => h) (.inl ⟨by rfl, fun w => by (go_simp; try with_reducible rfl)⟩) ?_
                        refine wpAny_oneM 12 8191 (by as_aux_lemma => kernel_rfl) (by as_aux_lemma => kernel_rfl) (of_decide_eq_true (by as_aux_lemma => kernel_rfl)) (by rfl) ?_
                        simp only [List.getD_cons_succ, List.getD_cons_zero]
                        go_wp2_with fail
                        refine ⟨fun h => absurd h (by decide), name_any fun y3 hw => ?_⟩
                        have hg2n : Box y3 y2.heap.size #[.bool false, .int .i64 0, .slice none 0 0] 25 := hw ▸ Box.new _ _ _
                        have hh : Below y2.heap.size y2 y3 := hw ▸ (Below.refl _ _).alloc (Nat.le_refl _) _
                        have m3 : y2.heap.size < y3.heap.size := hw ▸ (by simp)
                        clear hw
                        replace hg1 := hg1.next hh
                        replace hp := hp.keep (fun q hq => hh.block q (hq.elim (fun q => Nat.lt_of_lt_of_le q.2 (Nat.le_trans HH0.out s2)) (fun q => Nat.lt_of_lt_of_le q.2 t2)))
                        replace hu := hu.keep (fun q hq => hh.block q (hq.elim (fun q => Nat.lt_of_lt_of_le q.2 (Nat.le_trans HH0.out s2)) (fun q => Nat.lt_of_lt_of_le q.2 t2)))
                        have t3 := Nat.le_trans t2 hh.size
                        have hg2 := hg2n; clear hg2n
                        replace hV := hV.trans (hh.mono s2)
                        have s3 := Nat.le_trans s2 hh.size
                        clear hh
                        have hh0 := HH0.out
                        have hS : ∀ q, (also (rng WL.heap.size wr.heap.size) y1.heap.size y2.heap.size) q → (rng WL.heap.size wr.heap.size q ∨ W11.heap.size ≤ q) ∧ q < y3.heap.size ∧ q ≠ y0.heap.size ∧ q ≠ y2.heap.size := fun q hq => hq.elim (fun q => ⟨.inl q, by have := q.2; omega, by have := q.2; omega, by have := q.2; omega⟩) (fun q => ⟨.inr (by have := q.1; omega), by have := q.2; omega, by have := q.1; have := q.2; omega, by have := q.1; have := q.2; omega⟩)
                        have hne : y0.heap.size ≠ y2.heap.size := by omega
                        refine KK.out _ _ ?_
                        refine ⟨y0.heap.size, y2.heap.size, PA, PB, LC, pk, pl, lc, _, ?_, hg1, hg2, hne, hS, hp, hu, s0, s2, hV, Nat.le_trans hh0 s3⟩
                        rw [← HACT.out]
                        go_simp
                      ·
                        simp only [List.getD_cons_succ, List.getD_cons_zero]
                        go_wp2_with fail
                        refine ⟨fun h => absurd h (by decide), name_any fun y2 hw => ?_⟩
                        have hg2n : Box y2 y1.heap.size #[.bool false, .int .i64 0, .slice none 0 0] 25 := hw ▸ Box.new _ _ _
                        have hh : Below y1.heap.size y1 y2 := hw ▸ (Below.refl _ _).alloc (Nat.le_refl _) _
                        have m2 : y1.heap.size < y2.heap.size := hw ▸ (by simp)
                        clear hw
                        replace hg1 := hg1.next hh
                        have hg2 := hg2n; clear hg2n
                        replace hV := hV.trans (hh.mono s1)
                        have s2 := Nat.le_trans s1 hh.size
                        clear hh
                        refine wpAny_oneM 6 6271 (by as_aux_lemma => kernel_rfl) (by as_aux_lemma => kernel_rfl) (of_decide_eq_true (by as_aux_lemma => kernel_rfl)) (by rfl) ?_
                        simp only [List.getD_cons_succ, List.getD_cons_zero]
                        go_wp2_with fail
                        refine (ctake (rng WL.heap.size wr.heap.size) F2 B2 E2 x.i (fun _ q => Nat.lt_of_lt_of_le q.2 (Nat.le_trans HH0.out s2)) (HA.out.keep fun _ _ q => hV.block _ (Nat.lt_of_lt_of_le q HH0.out)).on HSM.out.len HF2.out HB2.out HE2.out).mono ?_
                        rintro e y3 ⟨⟨PA, pk, PB, pl, LC, lc, rfl, hp, hu⟩, hh⟩
                        replace hu := hu.on
                        replace hp : FrOn false y3 (also (rng WL.heap.size wr.heap.size) y2.heap.size y3.heap.size) _ _ := hp.widen (fun _ q => .inl q)
                        replace hg1 := hg1.next hh
                        replace hg2 := hg2.next hh
                        replace hV := hV.trans (hh.mono s2)
                        have m3 := hh.size
                        have s3 := Nat.le_trans s2 hh.size
                        have t3 := Nat.le_refl y3.heap.size
                        clear hh
                        go_wp2_with fail
                        refine ⟨fun _ => Ext.below (below_drewL hV) (Nat.le_refl _), ?_⟩
                        refine wpAny_go 64 6271 [7, 8] 6655 5 (by as_aux_lemma => kernel_rfl) (by as_aux_lemma => kernel_rfl) (fun _ _ _ _ _ h => h) (by as_aux_lemma => kernel_rfl) (by rfl) (by rfl) (by as_aux_lemma => kernel_rfl) ?_
                        simp only [List.map_cons, List.map_nil, List.getD_cons_succ, List.getD_cons_zero]
                        go_wp2_with fail
                        change wpAnyM _ _ _ _ _ _ _ _ _ _
                        refine wpAny_takeM 9 rfl (by as_aux_lemma => kernel_rfl) (by rfl : 6655 ||| 2 ^ 9 = 7167) (by as_aux_lemma => kernel_rfl) (by as_aux_lemma => kernel_rfl) (by as_aux_lemma => kernel_rfl) (by as_aux_lemma => kernel_rfl) (fun _ _ _ h => h) (.inl ⟨by rfl, fun w => by (go_simp; try with_reducible rfl)⟩) ?_
                        refine wpAny_takeM 10 rfl (by as_aux_lemma => kernel_rfl) (by rfl : 7167 ||| 2 ^ 10 = 8191) (by as_aux_lemma => kernel_rfl) (by as_aux_lemma => kernel_rfl) (by as_aux_lemma => kernel_rfl) (by as_aux_lemma => kernel_rfl) (fun _ _ _ h => h) (.inl ⟨by rfl, fun w => by (go_simp; try with_reducible rfl)⟩) ?_
                        have hh0 := HH0.out
                        have hS : ∀ q, (also (rng WL.heap.size wr.heap.size) y2.heap.size y3.heap.size) q → (rng WL.heap.size wr.heap.size q ∨ W11.heap.size ≤ q) ∧ q < y3.heap.size ∧ q ≠ y0.heap.size ∧ q ≠ y1.heap.size := fun q hq => hq.elim (fun q => ⟨.inl q, by have := q.2; omega, by have := q.2; omega, by have := q.2; omega⟩) (fun q => ⟨.inr (by have := q.1; omega), by have := q.2; omega, by have := q.1; have := q.2; omega, by have := q.1; have := q.2; omega⟩)
                        have hne : y0.heap.size ≠ y1.heap.size := by omega
                        refine KK.out _ _ ?_
                        refine ⟨y0.heap.size, y1.heap.size, PA, PB, LC, pk, pl, lc, _, ?_, hg1, hg2, hne, hS, hp, hu, s0, s1, hV, Nat.le_trans hh0 s3⟩
                        rw [← HACT.out]
                        go_simp
                    ·
                      simp only [List.getD_cons_succ, List.getD_cons_zero]
                      go_wp2_with fail
                      refine ⟨fun h => absurd h (by decide), name_any fun y1 hw => ?_⟩
                      have hg2n : Box y1 y0.heap.size #[.bool false, .int .i64 0, .slice none 0 0] 25 := hw ▸ Box.new _ _ _
                      have hh : Below y0.heap.size y0 y1 := hw ▸ (Below.refl _ _).alloc (Nat.le_refl _) _
                      have m1 : y0.heap.size < y1.heap.size := hw ▸ (by simp)
                      clear hw
                      have hg2 := hg2n; clear hg2n
                      replace hV := hV.trans (hh.mono s0)
                      have s1 := Nat.le_trans s0 hh.size
                      clear hh
                      refine wpAny_twoM 6 11 4223 6207 (by as_aux_lemma => kernel_rfl) (by as_aux_lemma => kernel_rfl) (of_decide_eq_true (by as_aux_lemma => kernel_rfl)) (of_decide_eq_true (by as_aux_lemma => kernel_rfl)) (by rfl) (by rfl) ?_ ?_
                      ·
                        simp only [List.getD_cons_succ, List.getD_cons_zero]
                        go_wp2_with fail
                        refine (ctake (rng WL.heap.size wr.heap.size) F2 B2 E2 x.i (fun _ q => Nat.lt_of_lt_of_le q.2 (Nat.le_trans HH0.out s1)) (HA.out.keep fun _ _ q => hV.block _ (Nat.lt_of_lt_of_le q HH0.out)).on HSM.out.len HF2.out HB2.out HE2.out).mono ?_
                        rintro e y2 ⟨⟨PA, pk, PB, pl, LC, lc, rfl, hp, hu⟩, hh⟩
                        replace hu := hu.on
                        replace hp : FrOn false y2 (also (rng WL.heap.size wr.heap.size) y1.heap.size y2.heap.size) _ _ := hp.widen (fun _ q => .inl q)
                        replace hg2 := hg2.next hh
                        replace hV := hV.trans (hh.mono s1)
                        have m2 := hh.size
                        have s2 := Nat.le_trans s1 hh.size
                        have t2 := Nat.le_refl y2.heap.size
                        clear hh
                        go_wp2_with fail
                        refine ⟨fun _ => Ext.below (below_drewL hV) (Nat.le_refl _), ?_⟩
                        refine wpAny_go 64 4223 [7, 8] 4607 6 (by as_aux_lemma => kernel_rfl) (by as_aux_lemma => kernel_rfl) (fun _ _ _ _ _ h => h) (by as_aux_lemma => kernel_rfl) (by rfl) (by rfl) (by as_aux_lemma => kernel_rfl) ?_
                        simp only [List.map_cons, List.map_nil, List.getD_cons_succ, List.getD_cons_zero]
                        go_wp2_with fail
                        change wpAnyM _ _ _ _ _ _ _ _ _ _
                        refine wpAny_takeM 9 rfl (by as_aux_lemma => kernel_rfl) (by rfl : 4607 ||| 2 ^ 9 = 5119) (by as_aux_lemma => kernel_rfl) (by as_aux_lemma => kernel_rfl) (by as_aux_lemma => kernel_rfl) (by as_aux_lemma => kernel_rfl) (fun _ _ _ h => h) (.inl ⟨by rfl, fun w => by (go_simp; try with_reducible rfl)⟩) ?_
                        refine wpAny_takeM 10 rfl (by as_aux_lemma => kernel_rfl) (by rfl : 5119 ||| 2 ^ 10 = 6143) (by as_aux_lemma => kernel_rfl) (by as_aux_lemma => kernel_rfl) (by as_aux_lemma => kernel_rfl) (by as_aux_lemma => kernel_rfl) (fun _ _ _ h => h) (.inl ⟨by rfl, fun w => by (go_simp; try with_reducible rfl)⟩) ?_
                        refine wpAny_oneM 11 8191 (by as_aux_lemma => kernel_rfl) (by as_aux_lemma => kernel_rfl) (of_decide_eq_true (by as_aux_lemma => kernel_rfl)) (by rfl) ?_
                        simp only [List.getD_cons_succ, List.getD_cons_zero]
                        go_wp2_with fail
                        refine ⟨fun h => absurd h (by decide), name_any fun y3 hw => ?_⟩
                        have hg1n : Box y3 y2.heap.size #[.int .i64 0, .int .i64 0, .int .i64 0, .int .i64 0, .slice none 0 0, .int .i64 0, .int .i64 0, .int .i64 0, .slice none 0 0] 37 := hw ▸ Box.new _ _ _
                        have hh : Below y2.heap.size y2 y3 := hw ▸ (Below.refl _ _).alloc (Nat.le_refl _) _
                        have m3 : y2.heap.size < y3.heap.size := hw ▸ (by simp)
                        clear hw
                        replace hg2 := hg2.next hh
                        replace hp := hp.keep (fun q hq => hh.block q (hq.elim (fun q => Nat.lt_of_lt_of_le q.2 (Nat.le_trans HH0.out s2)) (fun q => Nat.lt_of_lt_of_le q.2 t2)))
                        replace hu := hu.keep (fun q hq => hh.block q (hq.elim (fun q => Nat.lt_of_lt_of_le q.2 (Nat.le_trans HH0.out s2)) (fun q => Nat.lt_of_lt_of_le q.2 t2)))
                        have t3 := Nat.le_trans t2 hh.size
                        have hg1 := hg1n; clear hg1n
                        replace hV := hV.trans (hh.mono s2)
                        have s3 := Nat.le_trans s2 hh.size
                        clear hh
                        have hh0 := HH0.out
                        have hS : ∀ q, (also (rng WL.heap.size wr.heap.size) y1.heap.size y2.heap.size) q → (rng WL.heap.size wr.heap.size q ∨ W11.heap.size ≤ q) ∧ q < y3.heap.size ∧ q ≠ y2.heap.size ∧ q ≠ y0.heap.size := fun q hq => hq.elim (fun q => ⟨.inl q, by have := q.2; omega, by have := q.2; omega, by have := q.2; omega⟩) (fun q => ⟨.inr (by have := q.1; omega), by have := q.2; omega, by have := q.1; have := q.2; omega, by have := q.1; have := q.2; omega⟩)
                        have hne : y2.heap.size ≠ y0.heap.size := by omega
                        refine KK.out _ _ ?_
                        refine ⟨y2.heap.size, y0.heap.size, PA, PB, LC, pk, pl, lc, _, ?_, hg1, hg2, hne, hS, hp, hu, s2, s0, hV, Nat.le_trans hh0 s3⟩
                        rw [← HACT.out]
                        go_simp
                      ·
                        simp only [List.getD_cons_succ, List.getD_cons_zero]
                        go_wp2_with fail
                        refine ⟨fun h => absurd h (by decide), name_any fun y2 hw => ?_⟩
                        have hg1n : Box y2 y1.heap.size #[.int .i64 0, .int .i64 0, .int .i64 0, .int .i64 0, .slice none 0 0, .int .i64 0, .int .i64 0, .int .i64 0, .slice none 0 0] 37 := hw ▸ Box.new _ _ _
                        have hh : Below y1.heap.size y1 y2 := hw ▸ (Below.refl _ _).alloc (Nat.le_refl _) _
                        have m2 : y1.heap.size < y2.heap.size := hw ▸ (by simp)
                        clear hw
                        replace hg2 := hg2.next hh
                        have hg1 := hg1n; clear hg1n
                        replace hV := hV.trans (hh.mono s1)
                        have s2 := Nat.le_trans s1 hh.size
                        clear hh
                        refine wpAny_oneM 6 6271 (by as_aux_lemma => kernel_rfl) (by as_aux_lemma => kernel_rfl) (of_decide_eq_true (by as_aux_lemma => kernel_rfl)) (by rfl) ?_
                        simp only [List.getD_cons_succ, List.getD_cons_zero]
                        go_wp2_with fail
                        refine (ctake (rng WL.heap.size wr.heap.size) F2 B2 E2 x.i (fun _ q => Nat.lt_of_lt_of_le q.2 (Nat.le_trans HH0.out s2)) (HA.out.keep fun _ _ q => hV.block _ (Nat.lt_of_lt_of_le q HH0.out)).on HSM.out.len HF2.out HB2.out HE2.out).mono ?_
                        rintro e y3 ⟨⟨PA, pk, PB, pl, LC, lc, rfl, hp, hu⟩, hh⟩
                        replace hu := hu.on
                        replace hp : FrOn false y3 (also (rng WL.heap.size wr.heap.size) y2.heap.size y3.heap.size) _ _ := hp.widen (fun _ q => .inl q)
                        replace hg1 := hg1.next hh
                        replace hg2 := hg2.next hh
                        replace hV := hV.trans (hh.mono s2)
                        have m3 := hh.size
                        have s3 := Nat.le_trans s2 hh.size
                        have t3 := Nat.le_refl y3.heap.size
                        clear hh
                        go_wp2_with fail
                        refine ⟨fun _ => Ext.below (below_drewL hV) (Nat.le_refl _), ?_⟩
                        refine wpAny_go 64 6271 [7, 8] 6655 5 (by as_aux_lemma => kernel_rfl) (by as_aux_lemma => kernel_rfl) (fun _ _ _ _ _ h => h) (by as_aux_lemma => kernel_rfl) (by rfl) (by rfl) (by as_aux_lemma => kernel_rfl) ?_
                        simp only [List.map_cons, List.map_nil, List.getD_cons_succ, List.getD_cons_zero]
                        go_wp2_with fail
                        change wpAnyM _ _ _ _ _ _ _ _ _ _
                        refine wpAny_takeM 9 rfl (by as_aux_lemma => kernel_rfl) (by rfl : 6655 ||| 2 ^ 9 = 7167) (by as_aux_lemma => kernel_rfl) (by as_aux_lemma => kernel_rfl) (by as_aux_lemma => kernel_rfl) (by as_aux_lemma => kernel_rfl) (fun _ _ _ h => h) (.inl ⟨by rfl, fun w => by (go_simp; try with_reducible rfl)⟩) ?_
                        refine wpAny_takeM 10 rfl (by as_aux_lemma => kernel_rfl) (by rfl : 7167 ||| 2 ^ 10 = 8191) (by as_aux_lemma => kernel_rfl) (by as_aux_lemma => kernel_rfl) (by as_aux_lemma => kernel_rfl) (by as_aux_lemma => kernel_rfl) (fun _ _ _ h => h) (.inl ⟨by rfl, fun w => by (go_simp; try with_reducible rfl)⟩) ?_
                        have hh0 := HH0.out
                        have hS : ∀ q, (also (rng WL.heap.size wr.heap.size) y2.heap.size y3.heap.size) q → (rng WL.heap.size wr.heap.size q ∨ W11.heap.size ≤ q) ∧ q < y3.heap.size ∧ q ≠ y1.heap.size ∧ q ≠ y0.heap.size := fun q hq => hq.elim (fun q => ⟨.inl q, by have := q.2; omega, by have := q.2; omega, by have := q.2; omega⟩) (fun q => ⟨.inr (by have := q.1; omega), by have := q.2; omega, by have := q.1; have := q.2; omega, by have := q.1; have := q.2; omega⟩)
                        have hne : y1.heap.size ≠ y0.heap.size := by omega
                        refine KK.out _ _ ?_
                        refine ⟨y1.heap.size, y0.heap.size, PA, PB, LC, pk, pl, lc, _, ?_, hg1, hg2, hne, hS, hp, hu, s1, s0, hV, Nat.le_trans hh0 s3⟩
                        rw [← HACT.out]
                        go_simp
                case rest =>
                  obtain ⟨p1, p2, pE, pA, pk, pB, pl, pC, pc, rfl, rfl, rfl, bxp, bxp2, hp, hp2, hgp1, hgp2, hb⟩ := hcut
                  obtain ⟨W12, rfl⟩ : ∃ x : World, x = wc := ⟨_, rfl⟩
                  clear HA HLO HH0
                  have HZp := Lib.hid hb.size
                  replace bx0 := bx0.next hb
                  replace bx1 := bx1.next hb
                  replace ha := ha.next hb
                  replace hr := hr.next hb
                  replace hBr := hBr.next hb
                  replace bxx := bxx.next hb
                  replace bxy := bxy.next hb
                  replace hB := hB.trans (hb.mono hB.size)
                  clear hb
                  go_upto_region 13 with fail
                  have HLO := Lib.hid (Nat.le_trans hlo hBr.size); have HH0 := Lib.hid hBr.size
                  have HA := Lib.hid (HR0.out.keep fun _ _ q => hBr.block _ q)
                  go_cut [18, 19, 20] (fun x y z wx => TakePost 48 28 W12 WL.heap.size wr.heap.size E2 F2 B2 x y z wx)
                  case first =>
                    have hV := (Below.refl W12.heap.size W12).drew
                    have bxd := bx1.next ((Below.refl _ _).drew)
                    have ci : W12.drew.cell? ⟨g, ao + j * 11 + 10, none⟩ = some (.int .i64 x.i) := (cell_of_block (hB.drew.block g hg)).trans HCI.out
                    have hgc : g < W12.drew.heap.size := Nat.lt_of_lt_of_le hg hB.size
                    obtain ⟨d0, d1, d2⟩ := three_cells bxd
                    have hl0 := bxd.lt
                    refine region_go 64 (by as_aux_lemma => kernel_rfl) ?_
                    refine wpAny_go 64 0 [0, 1, 2, 3, 4, 5] 63 10 (by as_aux_lemma => kernel_rfl) (by as_aux_lemma => kernel_rfl) (fun _ _ _ _ _ h => h) (by as_aux_lemma => kernel_rfl) (by rfl) (by rfl) (by as_aux_lemma => kernel_rfl) ?_
                    simp only [List.map_cons, List.map_nil, List.getD_cons_succ, List.getD_cons_zero]
                    go_wp2_with fail
                    change wpAnyM _ _ _ _ _ _ _ _ _ _
                    clear d0 d1 d2 hl0 ci hgc bxd
                    refine name_any fun y0 hy => ?_
                    have s0 : W12.heap.size ≤ y0.heap.size := by rw [← hy]; simp
                    rw [hy] at hV
                    clear hy
                    refine name_act fun A0 hA0 => ?_
                    refine wpAny_join 8191 3 (fun A y => ∃ (g1 g2 : Nat) (PA PB LC : Option Addr) (pk pl lc : Nat) (S : Nat → Prop), A = (((((((A0).put (some 88) (.tuple #[.agg #[.int .i64 F2.kind, .int .i64 F2.epoch, .int .i64 F2.seq, .int .i64 F2.letter, .slice PA F2.pieces.length pk, .int .i64 F2.init, .int .i64 F2.num, .int .i64 F2.count, .slice PB F2.path.length pl], .agg #[.bool B2.fifo, .int .i64 B2.cap, .slice LC B2.l.length lc], .int .i64 E2])).put (some 81) (.tuple #[.agg #[.int .i64 F2.kind, .int .i64 F2.epoch, .int .i64 F2.seq, .int .i64 F2.letter, .slice PA F2.pieces.length pk, .int .i64 F2.init, .int .i64 F2.num, .int .i64 F2.count, .slice PB F2.path.length pl], .agg #[.bool B2.fifo, .int .i64 B2.cap, .slice LC B2.l.length lc], .int .i64 E2])).put (some 89) (.agg #[.int .i64 F2.kind, .int .i64 F2.epoch, .int .i64 F2.seq, .int .i64 F2.letter, .slice PA F2.pieces.length pk, .int .i64 F2.init, .int .i64 F2.num, .int .i64 F2.count, .slice PB F2.path.length pl])).put (some 90) (.agg #[.bool B2.fifo, .int .i64 B2.cap, .slice LC B2.l.length lc])).put (some 91) (.int .i64 E2)).put (some 18) (.pointer (some ⟨g1, 0, none⟩))).put (some 19) (.pointer (some ⟨g2, 0, none⟩)) ∧ Box y g1 #[.int .i64 0, .int .i64 0, .int .i64 0, .int .i64 0, .slice none 0 0, .int .i64 0, .int .i64 0, .int .i64 0, .slice none 0 0] 48 ∧ Box y g2 #[.bool false, .int .i64 0, .slice none 0 0] 28 ∧ g1 ≠ g2 ∧ (∀ q, S q → (rng WL.heap.size wr.heap.size q ∨ W12.heap.size ≤ q) ∧ q < y.heap.size ∧ q ≠ g1 ∧ q ≠ g2) ∧ FrOn false y S (.agg #[.int .i64 F2.kind, .int .i64 F2.epoch, .int .i64 F2.seq, .int .i64 F2.letter, .slice PA F2.pieces.length pk, .int .i64 F2.init, .int .i64 F2.num, .int .i64 F2.count, .slice PB F2.path.length pl]) F2 ∧ LaOn y S (.agg #[.bool B2.fifo, .int .i64 B2.cap, .slice LC B2.l.length lc]) B2 ∧ W12.heap.size ≤ g1 ∧ W12.heap.size ≤ g2 ∧ Below W12.heap.size W12 y ∧ wr.heap.size ≤ y.heap.size) ?_ ?_
                    ·
                      clear hV s0
                      rintro A y ⟨g1, g2, PA, PB, LC, pk, pl, lc, S, hA, hg1, hg2, hne, hS, hp, hu, s1, s2, hV, hh0⟩
                      rw [hA, ← hA0]; clear hA hA0
                      have HSS2 := Lib.hid hS; have HNE := Lib.hid hne; clear hS hne
                      have HG1 := Lib.hid hg1; have HG2 := Lib.hid hg2; have HPP9 := Lib.hid hp; have HUU := Lib.hid hu; have HVV := Lib.hid hV; have HS1 := Lib.hid s1; have HS2 := Lib.hid s2; have HHH := Lib.hid hh0; clear hp hu hV s1 s2 hh0
                      obtain ⟨c0, c1, c2, c3, c4, c5, c6, c7, c8⟩ := nine_cells hg1
                      obtain ⟨g0, g1, g2, g3, g4, g5, g6, g7, g8⟩ := nine_free hg1
                      have hgl := hg1.lt
                      clear hg1 hg2
                      refine wpAny_go 64 8191 [13] 16383 2 (by as_aux_lemma => kernel_rfl) (by as_aux_lemma => kernel_rfl) (fun _ _ _ _ _ h => h) (by as_aux_lemma => kernel_rfl) (by rfl) (by rfl) (by as_aux_lemma => kernel_rfl) ?_
                      simp only [List.map_cons, List.map_nil, List.getD_cons_succ, List.getD_cons_zero]
                      go_wp2_with fail
                      change wpAnyM _ _ _ _ _ _ _ _ _ _
                      clear c0 c1 c2 c3 c4 c5 c6 c7 c8
                      clear g0 g1 g2 g3 g4 g5 g6 g7 g8
                      clear hgl
                      refine name_any fun Y hY => ?_
                      have hg2Y : Box Y g2 #[.bool false, .int .i64 0, .slice none 0 0] 28 := by rw [← hY]; exact (nine_far (Ne.symm HNE.out)).trans HG2.out
                      obtain ⟨d0, d1, d2⟩ := three_cells hg2Y
                      have df0 := three_free hg2Y 0
                      have df1 := three_free hg2Y 1
                      have df2 := three_free hg2Y 2
                      have hgl := hg2Y.lt
                      have HY := Lib.hid hY; clear hY hg2Y
                      refine wpAny_go 64 16383 [14, 15] 65535 0 (by as_aux_lemma => kernel_rfl) (by as_aux_lemma => kernel_rfl) (fun _ _ _ _ _ h => h) (by as_aux_lemma => kernel_rfl) (by rfl) (by rfl) (by as_aux_lemma => kernel_rfl) ?_
                      simp only [List.map_cons, List.map_nil, List.getD_cons_succ, List.getD_cons_zero]
                      go_wp2_with fail
                      change wpAnyM _ _ _ _ _ _ _ _ _ _
                      clear d0 d1 d2
                      clear df0 df1 df2
                      clear hgl
                      refine wpAny_endM (by as_aux_lemma => kernel_rfl) (by as_aux_lemma => kernel_rfl) ?_
                      go_wp2_with fail
                      go_meet
                      have hY := HY.out
                      subst hY
                      exact TakePost.mk_ HG1.out HG2.out HNE.out HSS2.out HHH.out HPP9.out HUU.out HS1.out HS2.out HVV.out
                    ·
                      intro K
                      have KK := Lib.hid K; have HACT := Lib.hid hA0; clear K
                      rw [← hA0]; clear hA0
                      refine wpAny_threeM 6 11 12 127 2111 4159 (by as_aux_lemma => kernel_rfl) (by as_aux_lemma => kernel_rfl) (of_decide_eq_true (by as_aux_lemma => kernel_rfl)) (of_decide_eq_true (by as_aux_lemma => kernel_rfl)) (of_decide_eq_true (by as_aux_lemma => kernel_rfl)) (by rfl) (by rfl) (by rfl) ?_ ?_ ?_
                      ·
                        simp only [List.getD_cons_succ, List.getD_cons_zero]
                        go_wp2_with fail
                        refine (crtake (rng WL.heap.size wr.heap.size) F2 B2 E2 x.i (fun _ q => Nat.lt_of_lt_of_le q.2 (Nat.le_trans HH0.out s0)) (HA.out.keep fun _ _ q => hV.block _ (Nat.lt_of_lt_of_le q HH0.out)).on HSM.out.len HF2.out HB2.out HE2.out).mono ?_
                        rintro e y1 ⟨⟨PA, pk, PB, pl, LC, lc, rfl, hp, hu⟩, hh⟩
                        replace hp : FrOn false y1 (also (rng WL.heap.size wr.heap.size) y0.heap.size y1.heap.size) _ _ := hp.widen (fun _ q => .inl q)
                        replace hV := hV.trans (hh.mono s0)
                        have m1 := hh.size
                        have s1 := Nat.le_trans s0 hh.size
                        have t1 := Nat.le_refl y1.heap.size
                        clear hh
                        go_wp2_with fail
                        refine ⟨fun _ => Ext.below (below_drewL hV) (Nat.le_refl _), ?_⟩
                        refine wpAny_go 64 127 [7, 8] 511 7 (by as_aux_lemma => kernel_rfl) (by as_aux_lemma => kernel_rfl) (fun _ _ _ _ _ h => h) (by as_aux_lemma => kernel_rfl) (by rfl) (by rfl) (by as_aux_lemma => kernel_rfl) ?_
                        simp only [List.map_cons, List.map_nil, List.getD_cons_succ, List.getD_cons_zero]
                        go_wp2_with fail
                        change wpAnyM _ _ _ _ _ _ _ _ _ _
                        refine wpAny_takeM 9 rfl (by as_aux_lemma => kernel_rfl) (by rfl : 511 ||| 2 ^ 9 = 1023) (by as_aux_lemma => kernel_rfl) (by as_aux_lemma => kernel_rfl) (by as_aux_lemma => kernel_rfl) (by as_aux_lemma => kernel_rfl) (fun _ _ _ h => h) (.inl ⟨by rfl, fun w => by (go_simp; try with_reducible rfl)⟩) ?_
                        refine wpAny_takeM 10 rfl (by as_aux_lemma => kernel_rfl) (by rfl : 1023 ||| 2 ^ 10 = 2047) (by as_aux_lemma => kernel_rfl) (by as_aux_lemma => kernel_rfl) (by as_aux_lemma => kernel_rfl) (by as_aux_lemma => kernel_rfl) (fun _ _ _ h => h) (.inl ⟨by rfl, fun w => by (go_simp; try with_reducible rfl)⟩) ?_
                        refine wpAny_twoM 11 12 4095 6143 (by as_aux_lemma => kernel_rfl) (by as_aux_lemma => kernel_rfl) (of_decide_eq_true (by as_aux_lemma => kernel_rfl)) (of_decide_eq_true (by as_aux_lemma => kernel_rfl)) (by rfl) (by rfl) ?_ ?_
                        ·
                          simp only [List.getD_cons_succ, List.getD_cons_zero]
                          go_wp2_with fail
                          refine ⟨fun h => absurd h (by decide), name_any fun y2 hw => ?_⟩
                          have hg1n : Box y2 y1.heap.size #[.int .i64 0, .int .i64 0, .int .i64 0, .int .i64 0, .slice none 0 0, .int .i64 0, .int .i64 0, .int .i64 0, .slice none 0 0] 48 := hw ▸ Box.new _ _ _
                          have hh : Below y1.heap.size y1 y2 := hw ▸ (Below.refl _ _).alloc (Nat.le_refl _) _
                          have m2 : y1.heap.size < y2.heap.size := hw ▸ (by simp)
                          clear hw
                          replace hp := hp.keep (fun q hq => hh.block q (hq.elim (fun q => Nat.lt_of_lt_of_le q.2 (Nat.le_trans HH0.out s1)) (fun q => Nat.lt_of_lt_of_le q.2 t1)))
                          replace hu := hu.keep (fun q hq => hh.block q (hq.elim (fun q => Nat.lt_of_lt_of_le q.2 (Nat.le_trans HH0.out s1)) (fun q => Nat.lt_of_lt_of_le q.2 t1)))
                          have t2 := Nat.le_trans t1 hh.size
                          have hg1 := hg1n; clear hg1n
                          replace hV := hV.trans (hh.mono s1)
                          have s2 := Nat.le_trans s1 hh.size
                          clear hh
                          refine wpAny_oneM 12 8191 (by as_aux_lemma => kernel_rfl) (by as_aux_lemma => kernel_rfl) (of_decide_eq_true (by as_aux_lemma => kernel_rfl)) (by rfl) ?_
                          simp only [List.getD_cons_succ, List.getD_cons_zero]
                          go_wp2_with fail
                          refine ⟨fun h => absurd h (by decide), name_any fun y3 hw => ?_⟩
                          have hg2n : Box y3 y2.heap.size #[.bool false, .int .i64 0, .slice none 0 0] 28 := hw ▸ Box.new _ _ _
                          have hh : Below y2.heap.size y2 y3 := hw ▸ (Below.refl _ _).alloc (Nat.le_refl _) _
                          have m3 : y2.heap.size < y3.heap.size := hw ▸ (by simp)
                          clear hw
                          replace hg1 := hg1.next hh
                          replace hp := hp.keep (fun q hq => hh.block q (hq.elim (fun q => Nat.lt_of_lt_of_le q.2 (Nat.le_trans HH0.out s2)) (fun q => Nat.lt_of_lt_of_le q.2 t2)))
                          replace hu := hu.keep (fun q hq => hh.block q (hq.elim (fun q => Nat.lt_of_lt_of_le q.2 (Nat.le_trans HH0.out s2)) (fun q => Nat.lt_of_lt_of_le q.2 t2)))
                          have t3 := Nat.le_trans t2 hh.size
                          have hg2 := hg2n; clear hg2n
                          replace hV := hV.trans (hh.mono s2)
                          have s3 := Nat.le_trans s2 hh.size
                          clear hh
                          have hh0 := HH0.out
                          have hS : ∀ q, (also (rng WL.heap.size wr.heap.size) y0.heap.size y1.heap.size) q → (rng WL.heap.size wr.heap.size q ∨ W12.heap.size ≤ q) ∧ q < y3.heap.size ∧ q ≠ y1.heap.size ∧ q ≠ y2.heap.size := fun q hq => hq.elim (fun q => ⟨.inl q, by have := q.2; omega, by have := q.2; omega, by have := q.2; omega⟩) (fun q => ⟨.inr (by have := q.1; omega), by have := q.2; omega, by have := q.1; have := q.2; omega, by have := q.1; have := q.2; omega⟩)
                          have hne : y1.heap.size ≠ y2.heap.size := by omega
                          refine KK.out _ _ ?_
                          refine ⟨y1.heap.size, y2.heap.size, PA, PB, LC, pk, pl, lc, _, ?_, hg1, hg2, hne, hS, hp, hu, s1, s2, hV, Nat.le_trans hh0 s3⟩
                          rw [← HACT.out]
                          go_simp
                        ·
                          simp only [List.getD_cons_succ, List.getD_cons_zero]
                          go_wp2_with fail
                          refine ⟨fun h => absurd h (by decide), name_any fun y2 hw => ?_⟩
                          have hg2n : Box y2 y1.heap.size #[.bool false, .int .i64 0, .slice none 0 0] 28 := hw ▸ Box.new _ _ _
                          have hh : Below y1.heap.size y1 y2 := hw ▸ (Below.refl _ _).alloc (Nat.le_refl _) _
                          have m2 : y1.heap.size < y2.heap.size := hw ▸ (by simp)
                          clear hw
                          replace hp := hp.keep (fun q hq => hh.block q (hq.elim (fun q => Nat.lt_of_lt_of_le q.2 (Nat.le_trans HH0.out s1)) (fun q => Nat.lt_of_lt_of_le q.2 t1)))
                          replace hu := hu.keep (fun q hq => hh.block q (hq.elim (fun q => Nat.lt_of_lt_of_le q.2 (Nat.le_trans HH0.out s1)) (fun q => Nat.lt_of_lt_of_le q.2 t1)))
                          have t2 := Nat.le_trans t1 hh.size
                          have hg2 := hg2n; clear hg2n
                          replace hV := hV.trans (hh.mono s1)
                          have s2 := Nat.le_trans s1 hh.size
                          clear hh
                          refine wpAny_oneM 11 8191 (by as_aux_lemma => kernel_rfl) (by as_aux_lemma => kernel_rfl) (of_decide_eq_true (by as_aux_lemma => kernel_rfl)) (by rfl) ?_
                          simp only [List.getD_cons_succ, List.getD_cons_zero]
                          go_wp2_with fail
                          refine ⟨fun h => absurd h (by decide), name_any fun y3 hw => ?_⟩
                          have hg1n : Box y3 y2.heap.size #[.int .i64 0, .int .i64 0, .int .i64 0, .int .i64 0, .slice none 0 0, .int .i64 0, .int .i64 0, .int .i64 0, .slice none 0 0] 48 := hw ▸ Box.new _ _ _
                          have hh : Below y2.heap.size y2 y3 := hw ▸ (Below.refl _ _).alloc (Nat.le_refl _) _
                          have m3 : y2.heap.size < y3.heap.size := hw ▸ (by simp)
                          clear hw
                          replace hg2 := hg2.next hh
                          replace hp := hp.keep (fun q hq => hh.block q (hq.elim (fun q => Nat.lt_of_lt_of_le q.2 (Nat.le_trans HH0.out s2)) (fun q => Nat.lt_of_lt_of_le q.2 t2)))
                          replace hu := hu.keep (fun q hq => hh.block q (hq.elim (fun q => Nat.lt_of_lt_of_le q.2 (Nat.le_trans HH0.out s2)) (fun q => Nat.lt_of_lt_of_le q.2 t2)))
                          have t3 := Nat.le_trans t2 hh.size
                          have hg1 := hg1n; clear hg1n
                          replace hV := hV.trans (hh.mono s2)
                          have s3 := Nat.le_trans s2 hh.size
                          clear hh
                          have hh0 := HH0.out
                          have hS : ∀ q, (also (rng WL.heap.size wr.heap.size) y0.heap.size y1.heap.size) q → (rng WL.heap.size wr.heap.size q ∨ W12.heap.size ≤ q) ∧ q < y3.heap.size ∧ q ≠ y2.heap.size ∧ q ≠ y1.heap.size := fun q hq => hq.elim (fun q => ⟨.inl q, by have := q.2; omega, by have := q.2; omega, by have := q.2; omega⟩) (fun q => ⟨.inr (by have := q.1; omega), by have := q.2; omega, by have := q.1; have := q.2; omega, by have := q.1; have := q.2; omega⟩)
                          have hne : y2.heap.size ≠ y1.heap.size := by omega
                          refine KK.out _ _ ?_
                          refine ⟨y2.heap.size, y1.heap.size, PA, PB, LC, pk, pl, lc, _, ?_, hg1, hg2, hne, hS, hp, hu, s2, s1, hV, Nat.le_trans hh0 s3⟩
                          rw [← HACT.out]
                          go_simp
                      ·
                        simp only [List.getD_cons_succ, List.getD_cons_zero]
                        go_wp2_with fail
                        refine ⟨fun h => absurd h (by decide), name_any fun y1 hw => ?_⟩
                        have hg1n : Box y1 y0.heap.size #[.int .i64 0, .int .i64 0, .int .i64 0, .int .i64 0, .slice none 0 0, .int .i64 0, .int .i64 0, .int .i64 0, .slice none 0 0] 48 := hw ▸ Box.new _ _ _
                        have hh : Below y0.heap.size y0 y1 := hw ▸ (Below.refl _ _).alloc (Nat.le_refl _) _
                        have m1 : y0.heap.size < y1.heap.size := hw ▸ (by simp)
                        clear hw
                        have hg1 := hg1n; clear hg1n
                        replace hV := hV.trans (hh.mono s0)
                        have s1 := Nat.le_trans s0 hh.size
                        clear hh
                        refine wpAny_twoM 6 12 2175 6207 (by as_aux_lemma => kernel_rfl) (by as_aux_lemma => kernel_rfl) (of_decide_eq_true (by as_aux_lemma => kernel_rfl)) (of_decide_eq_true (by as_aux_lemma => kernel_rfl)) (by rfl) (by rfl) ?_ ?_
                        ·
                          simp only [List.getD_cons_succ, List.getD_cons_zero]
                          go_wp2_with fail
                          refine (crtake (rng WL.heap.size wr.heap.size) F2 B2 E2 x.i (fun _ q => Nat.lt_of_lt_of_le q.2 (Nat.le_trans HH0.out s1)) (HA.out.keep fun _ _ q => hV.block _ (Nat.lt_of_lt_of_le q HH0.out)).on HSM.out.len HF2.out HB2.out HE2.out).mono ?_
                          rintro e y2 ⟨⟨PA, pk, PB, pl, LC, lc, rfl, hp, hu⟩, hh⟩
                          replace hp : FrOn false y2 (also (rng WL.heap.size wr.heap.size) y1.heap.size y2.heap.size) _ _ := hp.widen (fun _ q => .inl q)
                          replace hg1 := hg1.next hh
                          replace hV := hV.trans (hh.mono s1)
                          have m2 := hh.size
                          have s2 := Nat.le_trans s1 hh.size
                          have t2 := Nat.le_refl y2.heap.size
                          clear hh
                          go_wp2_with fail
                          refine ⟨fun _ => Ext.below (below_drewL hV) (Nat.le_refl _), ?_⟩
                          refine wpAny_go 64 2175 [7, 8] 2559 6 (by as_aux_lemma => kernel_rfl) (by as_aux_lemma => kernel_rfl) (fun _ _ _ _ _ h => h) (by as_aux_lemma => kernel_rfl) (by rfl) (by rfl) (by as_aux_lemma => kernel_rfl) ?_
                          simp only [List.map_cons, List.map_nil, List.getD_cons_succ, List.getD_cons_zero]
                          go_wp2_with fail
                          change wpAnyM _ _ _ _ _ _ _ _ _ _
                          refine wpAny_takeM 9 rfl (by as_aux_lemma => kernel_rfl) (by rfl : 2559 ||| 2 ^ 9 = 3071) (by as_aux_lemma => kernel_rfl) (by as_aux_lemma => kernel_rfl) (by as_aux_lemma => kernel_rfl) (by as_aux_lemma => kernel_rfl) (fun _ _ _ h => h) (.inl ⟨by rfl, fun w => by (go_simp; try with_reducible rfl)⟩) ?_
                          refine wpAny_takeM 10 rfl (by as_aux_lemma => kernel_rfl) (by rfl : 3071 ||| 2 ^ 10 = 4095) (by as_aux_lemma => kernel_rfl) (by as_aux_lemma => kernel_rfl) (by as_aux_lemma => kernel_rfl) (by as_aux_lemma => kernel_rfl) (fun _ _ _ h => h) (.inl ⟨by rfl, fun w => by (go_simp; try with_reducible rfl)⟩) ?_
                          refine wpAny_oneM 12 8191 (by as_aux_lemma => kernel_rfl) (by as_aux_lemma => kernel_rfl) (of_decide_eq_true (by as_aux_lemma => kernel_rfl)) (by rfl) ?_
                          simp only [List.getD_cons_succ, List.getD_cons_zero]
                          go_wp2_with fail
                          refine ⟨fun h => absurd h (by decide), name_any fun y3 hw => ?_⟩
                          have hg2n : Box y3 y2.heap.size #[.bool false, .int .i64 0, .slice none 0 0] 28 := hw ▸ Box.new _ _ _
                          have hh : Below y2.heap.size y2 y3 := hw ▸ (Below.refl _ _).alloc (Nat.le_refl _) _
                          have m3 : y2.heap.size < y3.heap.size := hw ▸ (by simp)
                          clear hw
                          replace hg1 := hg1.next hh
                          replace hp := hp.keep (fun q hq => hh.block q (hq.elim (fun q => Nat.lt_of_lt_of_le q.2 (Nat.le_trans HH0.out s2)) (fun q => Nat.lt_of_lt_of_le q.2 t2)))
                          replace hu := hu.keep (fun q hq => hh.block q (hq.elim (fun q => Nat.lt_of_lt_of_le q.2 (Nat.le_trans HH0.out s2)) (fun q => Nat.lt_of_lt_of_le q.2 t2)))
                          have t3 := Nat.le_trans t2 hh.size
                          have hg2 := hg2n; clear hg2n
                          replace hV := hV.trans (hh.mono s2)
                          have s3 := Nat.le_trans s2 hh.size
                          clear hh
                          have hh0 := HH0.out
                          have hS : ∀ q, (also (rng WL.heap.size wr.heap.size) y1.heap.size y2.heap.size) q → (rng WL.heap.size wr.heap.size q ∨ W12.heap.size ≤ q) ∧ q < y3.heap.size ∧ q ≠ y0.heap.size ∧ q ≠ y2.heap.size := fun q hq => hq.elim (fun q => ⟨.inl q, by have := q.2; omega, by have := q.2; omega, by have := q.2; omega⟩) (fun q => ⟨.inr (by have := q.1; omega), by have := q.2; omega, by have := q.1; have := q.2; omega, by have := q.1; have := q.2; omega⟩)
                          have hne : y0.heap.size ≠ y2.heap.size := by omega
                          refine KK.out _ _ ?_
                          refine ⟨y0.heap.size, y2.heap.size, PA, PB, LC, pk, pl, lc, _, ?_, hg1, hg2, hne, hS, hp, hu, s0, s2, hV, Nat.le_trans hh0 s3⟩
                          rw [← HACT.out]
                          go_simp
                        ·
                          simp only [List.getD_cons_succ, List.getD_cons_zero]
                          go_wp2_with fail
                          refine ⟨fun h => absurd h (by decide), name_any fun y2 hw => ?_⟩
                          have hg2n : Box y2 y1.heap.size #[.bool false, .int .i64 0, .slice none 0 0] 28 := hw ▸ Box.new _ _ _
                          have hh : Below y1.heap.size y1 y2 := hw ▸ (Below.refl _ _).alloc (Nat.le_refl _) _
                          have m2 : y1.heap.size < y2.heap.size := hw ▸ (by simp)
                          clear hw
                          replace hg1 := hg1.next hh
                          have hg2 := hg2n; clear hg2n
                          replace hV := hV.trans (hh.mono s1)
                          have s2 := Nat.le_trans s1 hh.size
                          clear hh
                          refine wpAny_oneM 6 6271 (by as_aux_lemma => kernel_rfl) (by as_aux_lemma => kernel_rfl) (of_decide_eq_true (by as_aux_lemma => kernel_rfl)) (by rfl) ?_
                          simp only [List.getD_cons_succ, List.getD_cons_zero]
                          go_wp2_with fail
                          refine (crtake (rng WL.heap.size wr.heap.size) F2 B2 E2 x.i (fun _ q => Nat.lt_of_lt_of_le q.2 (Nat.le_trans HH0.out s2)) (HA.out.keep fun _ _ q => hV.block _ (Nat.lt_of_lt_of_le q HH0.out)).on HSM.out.len HF2.out HB2.out HE2.out).mono ?_
                          rintro e y3 ⟨⟨PA, pk, PB, pl, LC, lc, rfl, hp, hu⟩, hh⟩
                          replace hp : FrOn false y3 (also (rng WL.heap.size wr.heap.size) y2.heap.size y3.heap.size) _ _ := hp.widen (fun _ q => .inl q)
                          replace hg1 := hg1.next hh
                          replace hg2 := hg2.next hh
                          replace hV := hV.trans (hh.mono s2)
                          have m3 := hh.size
                          have s3 := Nat.le_trans s2 hh.size
                          have t3 := Nat.le_refl y3.heap.size
                          clear hh
                          go_wp2_with fail
                          refine ⟨fun _ => Ext.below (below_drewL hV) (Nat.le_refl _), ?_⟩
                          refine wpAny_go 64 6271 [7, 8] 6655 5 (by as_aux_lemma => kernel_rfl) (by as_aux_lemma => kernel_rfl) (fun _ _ _ _ _ h => h) (by as_aux_lemma => kernel_rfl) (by rfl) (by rfl) (by as_aux_lemma => kernel_rfl) ?_
                          simp only [List.map_cons, List.map_nil, List.getD_cons_succ, List.getD_cons_zero]
                          go_wp2_with fail
                          change wpAnyM _ _ _ _ _ _ _ _ _ _
                          refine wpAny_takeM 9 rfl (by as_aux_lemma => kernel_rfl) (by rfl : 6655 ||| 2 ^ 9 = 7167) (by as_aux_lemma => kernel_rfl) (by as_aux_lemma => kernel_rfl) (by as_aux_lemma => kernel_rfl) (by as_aux_lemma => kernel_rfl) (fun _ _ _ h => h) (.inl ⟨by rfl, fun w => by (go_simp; try with_reducible rfl)⟩) ?_
                          refine wpAny_takeM 10 rfl (by as_aux_lemma => kernel_rfl) (by rfl : 7167 ||| 2 ^ 10 = 8191) (by as_aux_lemma => kernel_rfl) (by as_aux_lemma => kernel_rfl) (by as_aux_lemma => kernel_rfl) (by as_aux_lemma => kernel_rfl) (fun _ _ _ h => h) (.inl ⟨by rfl, fun w => by (go_simp; try with_reducible rfl)⟩) ?_
                          have hh0 := HH0.out
                          have hS : ∀ q, (also (rng WL.heap.size wr.heap.size) y2.heap.size y3.heap.size) q → (rng WL.heap.size wr.heap.size q ∨ W12.heap.size ≤ q) ∧ q < y3.heap.size ∧ q ≠ y0.heap.size ∧ q ≠ y1.heap.size := fun q hq => hq.elim (fun q => ⟨.inl q, by have := q.2; omega, by have := q.2; omega, by have := q.2; omega⟩) (fun q => ⟨.inr (by have := q.1; omega), by have := q.2; omega, by have := q.1; have := q.2; omega, by have := q.1; have := q.2; omega⟩)
                          have hne : y0.heap.size ≠ y1.heap.size := by omega
                          refine KK.out _ _ ?_
                          refine ⟨y0.heap.size, y1.heap.size, PA, PB, LC, pk, pl, lc, _, ?_, hg1, hg2, hne, hS, hp, hu, s0, s1, hV, Nat.le_trans hh0 s3⟩
                          rw [← HACT.out]
                          go_simp
                      ·
                        simp only [List.getD_cons_succ, List.getD_cons_zero]
                        go_wp2_with fail
                        refine ⟨fun h => absurd h (by decide), name_any fun y1 hw => ?_⟩
                        have hg2n : Box y1 y0.heap.size #[.bool false, .int .i64 0, .slice none 0 0] 28 := hw ▸ Box.new _ _ _
                        have hh : Below y0.heap.size y0 y1 := hw ▸ (Below.refl _ _).alloc (Nat.le_refl _) _
                        have m1 : y0.heap.size < y1.heap.size := hw ▸ (by simp)
                        clear hw
                        have hg2 := hg2n; clear hg2n
                        replace hV := hV.trans (hh.mono s0)
                        have s1 := Nat.le_trans s0 hh.size
                        clear hh
                        refine wpAny_twoM 6 11 4223 6207 (by as_aux_lemma => kernel_rfl) (by as_aux_lemma => kernel_rfl) (of_decide_eq_true (by as_aux_lemma => kernel_rfl)) (of_decide_eq_true (by as_aux_lemma => kernel_rfl)) (by rfl) (by rfl) ?_ ?_
                        ·
                          simp only [List.getD_cons_succ, List.getD_cons_zero]
                          go_wp2_with fail
                          refine (crtake (rng WL.heap.size wr.heap.size) F2 B2 E2 x.i (fun _ q => Nat.lt_of_lt_of_le q.2 (Nat.le_trans HH0.out s1)) (HA.out.keep fun _ _ q => hV.block _ (Nat.lt_of_lt_of_le q HH0.out)).on HSM.out.len HF2.out HB2.out HE2.out).mono ?_
                          rintro e y2 ⟨⟨PA, pk, PB, pl, LC, lc, rfl, hp, hu⟩, hh⟩
                          replace hp : FrOn false y2 (also (rng WL.heap.size wr.heap.size) y1.heap.size y2.heap.size) _ _ := hp.widen (fun _ q => .inl q)
                          replace hg2 := hg2.next hh
                          replace hV := hV.trans (hh.mono s1)
                          have m2 := hh.size
                          have s2 := Nat.le_trans s1 hh.size
                          have t2 := Nat.le_refl y2.heap.size
                          clear hh
                          go_wp2_with fail
                          refine ⟨fun _ => Ext.below (below_drewL hV) (Nat.le_refl _), ?_⟩
                          refine wpAny_go 64 4223 [7, 8] 4607 6 (by as_aux_lemma => kernel_rfl) (by as_aux_lemma => kernel_rfl) (fun _ _ _ _ _ h => h) (by as_aux_lemma => kernel_rfl) (by rfl) (by rfl) (by as_aux_lemma => kernel_rfl) ?_
                          simp only [List.map_cons, List.map_nil, List.getD_cons_succ, List.getD_cons_zero]
                          go_wp2_with fail
                          change wpAnyM _ _ _ _ _ _ _ _ _ _
                          refine wpAny_takeM 9 rfl (by as_aux_lemma => kernel_rfl) (by rfl : 4607 ||| 2 ^ 9 = 5119) (by as_aux_lemma => kernel_rfl) (by as_aux_lemma => kernel_rfl) (by as_aux_lemma => kernel_rfl) (by as_aux_lemma => kernel_rfl) (fun _ _ _ h => h) (.inl ⟨by rfl, fun w => by (go_simp; try with_reducible rfl)⟩) ?_
                          refine wpAny_takeM 10 rfl (by as_aux_lemma => kernel_rfl) (by rfl : 5119 ||| 2 ^ 10 = 6143) (by as_aux_lemma => kernel_rfl) (by as_aux_lemma => kernel_rfl) (by as_aux_lemma => kernel_rfl) (by as_aux_lemma => kernel_rfl) (fun _ _ _ h => h) (.inl ⟨by rfl, fun w => by (go_simp; try with_reducible rfl)⟩) ?_
                          refine wpAny_oneM 11 8191 (by as_aux_lemma => kernel_rfl) (by as_aux_lemma => kernel_rfl) (of_decide_eq_true (by as_aux_lemma => kernel_rfl)) (by rfl) ?_
                          simp only [List.getD_cons_succ, List.getD_cons_zero]
                          go_wp2_with fail
                          refine ⟨fun h => absurd h (by decide), name_any fun y3 hw => ?_⟩
                          have hg1n : Box y3 y2.heap.size #[.int .i64 0, .int .i64 0, .int .i64 0, .int .i64 0, .slice none 0 0, .int .i64 0, .int .i64 0, .int .i64 0, .slice none 0 0] 48 := hw ▸ Box.new _ _ _
                          have hh : Below y2.heap.size y2 y3 := hw ▸ (Below.refl _ _).alloc (Nat.le_refl _) _
                          have m3 : y2.heap.size < y3.heap.size := hw ▸ (by simp)
                          clear hw
                          replace hg2 := hg2.next hh
                          replace hp := hp.keep (fun q hq => hh.block q (hq.elim (fun q => Nat.lt_of_lt_of_le q.2 (Nat.le_trans HH0.out s2)) (fun q => Nat.lt_of_lt_of_le q.2 t2)))
                          replace hu := hu.keep (fun q hq => hh.block q (hq.elim (fun q => Nat.lt_of_lt_of_le q.2 (Nat.le_trans HH0.out s2)) (fun q => Nat.lt_of_lt_of_le q.2 t2)))
                          have t3 := Nat.le_trans t2 hh.size
                          have hg1 := hg1n; clear hg1n
                          replace hV := hV.trans (hh.mono s2)
                          have s3 := Nat.le_trans s2 hh.size
                          clear hh
                          have hh0 := HH0.out
                          have hS : ∀ q, (also (rng WL.heap.size wr.heap.size) y1.heap.size y2.heap.size) q → (rng WL.heap.size wr.heap.size q ∨ W12.heap.size ≤ q) ∧ q < y3.heap.size ∧ q ≠ y2.heap.size ∧ q ≠ y0.heap.size := fun q hq => hq.elim (fun q => ⟨.inl q, by have := q.2; omega, by have := q.2; omega, by have := q.2; omega⟩) (fun q => ⟨.inr (by have := q.1; omega), by have := q.2; omega, by have := q.1; have := q.2; omega, by have := q.1; have := q.2; omega⟩)
                          have hne : y2.heap.size ≠ y0.heap.size := by omega
                          refine KK.out _ _ ?_
                          refine ⟨y2.heap.size, y0.heap.size, PA, PB, LC, pk, pl, lc, _, ?_, hg1, hg2, hne, hS, hp, hu, s2, s0, hV, Nat.le_trans hh0 s3⟩
                          rw [← HACT.out]
                          go_simp
                        ·
                          simp only [List.getD_cons_succ, List.getD_cons_zero]
                          go_wp2_with fail
                          refine ⟨fun h => absurd h (by decide), name_any fun y2 hw => ?_⟩
                          have hg1n : Box y2 y1.heap.size #[.int .i64 0, .int .i64 0, .int .i64 0, .int .i64 0, .slice none 0 0, .int .i64 0, .int .i64 0, .int .i64 0, .slice none 0 0] 48 := hw ▸ Box.new _ _ _
                          have hh : Below y1.heap.size y1 y2 := hw ▸ (Below.refl _ _).alloc (Nat.le_refl _) _
                          have m2 : y1.heap.size < y2.heap.size := hw ▸ (by simp)
                          clear hw
                          replace hg2 := hg2.next hh
                          have hg1 := hg1n; clear hg1n
                          replace hV := hV.trans (hh.mono s1)
                          have s2 := Nat.le_trans s1 hh.size
                          clear hh
                          refine wpAny_oneM 6 6271 (by as_aux_lemma => kernel_rfl) (by as_aux_lemma => kernel_rfl) (of_decide_eq_true (by as_aux_lemma => kernel_rfl)) (by rfl) ?_
                          simp only [List.getD_cons_succ, List.getD_cons_zero]
                          go_wp2_with fail
                          refine (crtake (rng WL.heap.size wr.heap.size) F2 B2 E2 x.i (fun _ q => Nat.lt_of_lt_of_le q.2 (Nat.le_trans HH0.out s2)) (HA.out.keep fun _ _ q => hV.block _ (Nat.lt_of_lt_of_le q HH0.out)).on HSM.out.len HF2.out HB2.out HE2.out).mono ?_
                          rintro e y3 ⟨⟨PA, pk, PB, pl, LC, lc, rfl, hp, hu⟩, hh⟩
                          replace hp : FrOn false y3 (also (rng WL.heap.size wr.heap.size) y2.heap.size y3.heap.size) _ _ := hp.widen (fun _ q => .inl q)
                          replace hg1 := hg1.next hh
                          replace hg2 := hg2.next hh
                          replace hV := hV.trans (hh.mono s2)
                          have m3 := hh.size
                          have s3 := Nat.le_trans s2 hh.size
                          have t3 := Nat.le_refl y3.heap.size
                          clear hh
                          go_wp2_with fail
                          refine ⟨fun _ => Ext.below (below_drewL hV) (Nat.le_refl _), ?_⟩
                          refine wpAny_go 64 6271 [7, 8] 6655 5 (by as_aux_lemma => kernel_rfl) (by as_aux_lemma => kernel_rfl) (fun _ _ _ _ _ h => h) (by as_aux_lemma => kernel_rfl) (by rfl) (by rfl) (by as_aux_lemma => kernel_rfl) ?_
                          simp only [List.map_cons, List.map_nil, List.getD_cons_succ, List.getD_cons_zero]
                          go_wp2_with fail
                          change wpAnyM _ _ _ _ _ _ _ _ _ _
                          refine wpAny_takeM 9 rfl (by as_aux_lemma => kernel_rfl) (by rfl : 6655 ||| 2 ^ 9 = 7167) (by as_aux_lemma => kernel_rfl) (by as_aux_lemma => kernel_rfl) (by as_aux_lemma => kernel_rfl) (by as_aux_lemma => kernel_rfl) (fun _ _ _ h => h) (.inl ⟨by rfl, fun w => by (go_simp; try with_reducible rfl)⟩) ?_
                          refine wpAny_takeM 10 rfl (by as_aux_lemma => kernel_rfl) (by rfl : 7167 ||| 2 ^ 10 = 8191) (by as_aux_lemma => kernel_rfl) (by as_aux_lemma => kernel_rfl) (by as_aux_lemma => kernel_rfl) (by as_aux_lemma => kernel_rfl) (fun _ _ _ h => h) (.inl ⟨by rfl, fun w => by (go_simp; try with_reducible rfl)⟩) ?_
                          have hh0 := HH0.out
                          have hS : ∀ q, (also (rng WL.heap.size wr.heap.size) y2.heap.size y3.heap.size) q → (rng WL.heap.size wr.heap.size q ∨ W12.heap.size ≤ q) ∧ q < y3.heap.size ∧ q ≠ y1.heap.size ∧ q ≠ y0.heap.size := fun q hq => hq.elim (fun q => ⟨.inl q, by have := q.2; omega, by have := q.2; omega, by have := q.2; omega⟩) (fun q => ⟨.inr (by have := q.1; omega), by have := q.2; omega, by have := q.1; have := q.2; omega, by have := q.1; have := q.2; omega⟩)
                          have hne : y1.heap.size ≠ y0.heap.size := by omega
                          refine KK.out _ _ ?_
                          refine ⟨y1.heap.size, y0.heap.size, PA, PB, LC, pk, pl, lc, _, ?_, hg1, hg2, hne, hS, hp, hu, s1, s0, hV, Nat.le_trans hh0 s3⟩
                          rw [← HACT.out]
                          go_simp
                  case rest =>
                    obtain ⟨q1, q2, qE, qA, qk, qB, ql, qC, qc, rfl, rfl, rfl, bxq, bxq2, hq, hq2, hgq1, hgq2, hb⟩ := hcut
                    obtain ⟨W13, rfl⟩ : ∃ x : World, x = wc := ⟨_, rfl⟩
                    clear HA HLO HH0
                    have HZq := Lib.hid hb.size
                    replace bx0 := bx0.next hb
                    replace bx1 := bx1.next hb
                    replace ha := ha.next hb
                    replace hr := hr.next hb
                    replace hBr := hBr.next hb
                    replace bxx := bxx.next hb
                    replace bxy := bxy.next hb
                    replace bxp := bxp.next hb
                    replace bxp2 := bxp2.next hb
                    replace hp := hp.next hb
                    replace hp2 := hp2.next hb
                    replace hB := hB.trans (hb.mono hB.size)
                    clear hb
                    go_upto_region 14 with fail
                    have hp0 := hp.is_; have hq0 := hq.is_
                    clear hp hq
                    replace bx0 := bx0.next ((Below.refl _ _).drew)
                    replace bx1 := bx1.next ((Below.refl _ _).drew)
                    replace ha := ha.next ((Below.refl _ _).drew)
                    replace hr := hr.next ((Below.refl _ _).drew)
                    replace hBr := hBr.next ((Below.refl _ _).drew)
                    replace bxx := bxx.next ((Below.refl _ _).drew)
                    replace bxy := bxy.next ((Below.refl _ _).drew)
                    replace bxp := bxp.next ((Below.refl _ _).drew)
                    replace bxp2 := bxp2.next ((Below.refl _ _).drew)
                    replace hp2 := hp2.next ((Below.refl _ _).drew)
                    replace bxq := bxq.next ((Below.refl _ _).drew)
                    replace bxq2 := bxq2.next ((Below.refl _ _).drew)
                    replace hq2 := hq2.next ((Below.refl _ _).drew)
                    replace hp0 := hp0.next ((Below.refl _ _).drew)
                    replace hq0 := hq0.next ((Below.refl _ _).drew)
                    replace hB := hB.drew
                    have hE := Ext.refl (W13.drew)
                    refine region_go 10 (by as_aux_lemma => kernel_rfl) ?_
                    obtain ⟨c0, c1, c2, c3, c4, c5, c6, c7, c8⟩ := nine_cells bxp
                    refine wpAny_go 10 0 [0] 1 4 (by as_aux_lemma => kernel_rfl) (by as_aux_lemma => kernel_rfl) (fun _ _ _ _ _ h => h) (by as_aux_lemma => kernel_rfl) (by rfl) (by rfl) (by as_aux_lemma => kernel_rfl) ?_
                    simp only [List.map_cons, List.map_nil, List.getD_cons_zero]
                    go_wp2_with fail
                    change wpAnyM _ _ _ _ _ _ _ _ _ _
                    clear c0 c1 c2 c3 c4 c5 c6 c7 c8
                    obtain ⟨c0, c1, c2, c3, c4, c5, c6, c7, c8⟩ := nine_cells bxq
                    refine wpAny_reads 10 1 [2] 5 3 (by as_aux_lemma => kernel_rfl) (by as_aux_lemma => kernel_rfl) (fun _ _ _ _ _ h => h) (by as_aux_lemma => kernel_rfl) (by rfl) (by rfl) (by as_aux_lemma => kernel_rfl) ?_
                    simp only [List.map_cons, List.map_nil, List.getD_cons_succ, List.getD_cons_zero]
                    go_wp2_with fail
                    change _ → wpAnyM _ _ _ _ _ _ _ _ _ _; intro _
                    clear c0 c1 c2 c3 c4 c5 c6 c7 c8
                    refine wpAny_oneM 1 7 (by as_aux_lemma => kernel_rfl) (by as_aux_lemma => kernel_rfl) (of_decide_eq_true (by as_aux_lemma => kernel_rfl)) (by rfl) ?_
                    simp only [List.getD_cons_succ, List.getD_cons_zero]
                    go_wp2_with fail
                    refine (cref hp0 HFS2.out).mono ?_
                    rintro e w12 ⟨⟨YA, Yk, YB, Yl, rfl, hy5⟩, hb⟩
                    replace bx0 := bx0.next hb
                    replace bx1 := bx1.next hb
                    replace ha := ha.next hb
                    replace hr := hr.next hb
                    replace hBr := hBr.next hb
                    replace bxx := bxx.next hb
                    replace bxy := bxy.next hb
                    replace bxp := bxp.next hb
                    replace bxp2 := bxp2.next hb
                    replace hp2 := hp2.next hb
                    replace bxq := bxq.next hb
                    replace bxq2 := bxq2.next hb
                    replace hq2 := hq2.next hb
                    replace hp0 := hp0.next hb
                    replace hq0 := hq0.next hb
                    replace hE := hE.trans (Ext.below hb (Nat.le_refl _))
                    replace hB := hB.trans (hb.mono hB.size)
                    clear hb
                    go_wp2_with fail
                    refine ⟨fun _ => hE, ?_⟩
                    refine wpAny_oneM 3 15 (by as_aux_lemma => kernel_rfl) (by as_aux_lemma => kernel_rfl) (of_decide_eq_true (by as_aux_lemma => kernel_rfl)) (by rfl) ?_
                    simp only [List.getD_cons_succ, List.getD_cons_zero]
                    go_wp2_with fail
                    refine (crsame hy5 hq0 (decide_eq_true rfl)).mono ?_
                    rintro e w13 ⟨rfl, hb⟩
                    replace bx0 := bx0.next hb
                    replace bx1 := bx1.next hb
                    replace ha := ha.next hb
                    replace hr := hr.next hb
                    replace hBr := hBr.next hb
                    replace bxx := bxx.next hb
                    replace bxy := bxy.next hb
                    replace bxp := bxp.next hb
                    replace bxp2 := bxp2.next hb
                    replace hp2 := hp2.next hb
                    replace bxq := bxq.next hb
                    replace bxq2 := bxq2.next hb
                    replace hq2 := hq2.next hb
                    replace hp0 := hp0.next hb
                    replace hq0 := hq0.next hb
                    replace hy5 := hy5.next hb
                    replace hE := hE.trans (Ext.below hb (Nat.le_refl _))
                    replace hB := hB.trans (hb.mono hB.size)
                    clear hb
                    go_wp2_with fail
                    refine ⟨fun _ => hE, ?_⟩
                    refine wpAny_go 10 15 [4] 31 0 (by as_aux_lemma => kernel_rfl) (by as_aux_lemma => kernel_rfl) (fun _ _ _ _ _ h => h) (by as_aux_lemma => kernel_rfl) (by rfl) (by rfl) (by as_aux_lemma => kernel_rfl) ?_
                    simp only [List.map_cons, List.map_nil, List.getD_cons_succ, List.getD_cons_zero]
                    go_wp2_with fail
                    change wpAnyM _ _ _ _ _ _ _ _ _ _
                    refine wpAny_endM (by as_aux_lemma => kernel_rfl) (by as_aux_lemma => kernel_rfl) ?_
                    clear hp0 hq0 hy5 bxp bxq
                    have HPS := Lib.hid (show w3.heap.size ≠ p2 ∧ w3.heap.size ≠ q2 ∧ gy ≠ p2 ∧ gy ≠ q2 ∧ w3.heap.size ≠ gy ∧ w.heap.size < w3.heap.size ∧ w.heap.size < gy ∧ WR.heap.size < w3.heap.size ∧ WR.heap.size < gy from by have h := HXY.out; have h2 := HG8.out; have h3 := HZp.out; omega)
                    have hx2 := hp2; have hy2 := hq2; clear hp2 hq2
                    obtain ⟨d0, d1, d2⟩ := three_cells bxp2
                    obtain ⟨t0, t1, t2⟩ := three_cells bxx
                    have tf0 := three_free bxx 0
                    have tf1 := three_free bxx 1
                    have tf2 := three_free bxx 2
                    have hl0 := bxp2.lt; have hl1 := bxx.lt
                    have HX2 := Lib.hid hx2; have HY2 := Lib.hid hy2; have HBH := Lib.hid hB; have HBRR := Lib.hid hBr; clear hx2 hy2 hB hBr ha hr
                    go_upto_region 17 with fail
                    clear d0 d1 d2
                    clear t0 t1 t2
                    clear tf0 tf1 tf2
                    clear hl0 hl1
                    refine name_wp fun W16 hW16 => ?_
                    have qbxx : Box W16 w3.heap.size #[.bool B2.fifo, .int .i64 B2.cap, .slice pC B2.l.length pc] 25 := by rw [← hW16]; exact blk_set (blk_set (blk_set bxx 0 _) 1 _) 2 _
                    have qbx0 : Box W16 w.heap.size #[.bool a.fifo, .int .i64 a.cap, .slice UA a.l.length uc] 25 := by rw [← hW16]; exact (three_other (by have h := HPS.out; omega)).trans bx0
                    have qbx1 : Box W16 (WR.heap.size) #[.bool a.fifo, .int .i64 a.cap, .slice VA a.l.length vc] 28 := by rw [← hW16]; exact (three_other (by have h := HPS.out; omega)).trans bx1
                    have qbxy : Box W16 gy #[.bool B1.fifo, .int .i64 B1.cap, .slice SA B1.l.length Sc] 28 := by rw [← hW16]; exact (three_other (by have h := HPS.out; omega)).trans bxy
                    have qbxq2 : Box W16 q2 #[.bool B2.fifo, .int .i64 B2.cap, .slice qC B2.l.length qc] 28 := by rw [← hW16]; exact (three_other (by have h := HPS.out; omega)).trans bxq2
                    have HX2n : Hid (KLa W16 (also (rng WL.heap.size wr.heap.size) W11.heap.size pE) (.agg #[.bool B2.fifo, .int .i64 B2.cap, .slice pC B2.l.length pc]) B2) := Lib.hid (by rw [← hW16]; exact HX2.out.move (fun k q => three_other (q.elim (fun q => by have h := HXY.out; have := q.2; omega) (fun q => by have h := HXY.out; have := q.1; omega))) three_size)
                    have HY2n : Hid (KLa W16 (also (rng WL.heap.size wr.heap.size) W12.heap.size qE) (.agg #[.bool B2.fifo, .int .i64 B2.cap, .slice qC B2.l.length qc]) B2) := Lib.hid (by rw [← hW16]; exact HY2.out.move (fun k q => three_other (q.elim (fun q => by have h := HXY.out; have := q.2; omega) (fun q => by have h := HXY.out; have h3 := HZp.out; have := q.1; omega))) three_size)
                    have HBHn : Hid (Below w.heap.size w W16) := Lib.hid (by rw [← hW16]; exact ((HBH.out.setCell (by have h := HPS.out; simp; omega) _).setCell (by have h := HPS.out; simp; omega) _).setCell (by have h := HPS.out; simp; omega) _)
                    have HBRn : Hid (Since wr W16) := Lib.hid (by rw [← hW16]; exact (((Below.setCell (show Below wr.heap.size wr _ from HBRR.out) (by have h := HXY.out; simp; omega) _).setCell (by have h := HXY.out; simp; omega) _).setCell (by have h := HXY.out; simp; omega) _))
                    clear HX2 HY2 HBH HBRR
                    have HX2 := HX2n; have HY2 := HY2n; have HBH := HBHn; have HBRR := HBRn
                    clear HX2n HY2n HBHn HBRn hW16
                    clear bx0 bx1 bxx bxy bxp2 bxq2
                    have bx0 := qbx0; have bx1 := qbx1; have bxx := qbxx; have bxy := qbxy; have bxq2 := qbxq2; clear qbx0 qbx1 qbxx qbxy qbxq2
                    obtain ⟨d0, d1, d2⟩ := three_cells bxq2
                    obtain ⟨t0, t1, t2⟩ := three_cells bxy
                    have tf0 := three_free bxy 0
                    have tf1 := three_free bxy 1
                    have tf2 := three_free bxy 2
                    have hl0 := bxq2.lt; have hl1 := bxy.lt
                    go_upto_region 18 with fail
                    clear d0 d1 d2
                    clear t0 t1 t2
                    clear tf0 tf1 tf2
                    clear hl0 hl1
                    refine name_wp fun W19 hW19 => ?_
                    have qbxy : Box W19 gy #[.bool B2.fifo, .int .i64 B2.cap, .slice qC B2.l.length qc] 28 := by rw [← hW19]; exact blk_set (blk_set (blk_set bxy 0 _) 1 _) 2 _
                    have qbx0 : Box W19 w.heap.size #[.bool a.fifo, .int .i64 a.cap, .slice UA a.l.length uc] 25 := by rw [← hW19]; exact (three_other (by have h := HPS.out; omega)).trans bx0
                    have qbx1 : Box W19 (WR.heap.size) #[.bool a.fifo, .int .i64 a.cap, .slice VA a.l.length vc] 28 := by rw [← hW19]; exact (three_other (by have h := HPS.out; omega)).trans bx1
                    have qbxx : Box W19 w3.heap.size #[.bool B2.fifo, .int .i64 B2.cap, .slice pC B2.l.length pc] 25 := by rw [← hW19]; exact (three_other (by have h := HPS.out; omega)).trans bxx
                    have HX2n : Hid (KLa W19 (also (rng WL.heap.size wr.heap.size) W11.heap.size pE) (.agg #[.bool B2.fifo, .int .i64 B2.cap, .slice pC B2.l.length pc]) B2) := Lib.hid (by rw [← hW19]; exact HX2.out.move (fun k q => three_other (q.elim (fun q => by have h := HXY.out; have := q.2; omega) (fun q => by have h := HXY.out; have := q.1; omega))) three_size)
                    have HY2n : Hid (KLa W19 (also (rng WL.heap.size wr.heap.size) W12.heap.size qE) (.agg #[.bool B2.fifo, .int .i64 B2.cap, .slice qC B2.l.length qc]) B2) := Lib.hid (by rw [← hW19]; exact HY2.out.move (fun k q => three_other (q.elim (fun q => by have h := HXY.out; have := q.2; omega) (fun q => by have h := HXY.out; have h3 := HZp.out; have := q.1; omega))) three_size)
                    have HBHn : Hid (Below w.heap.size w W19) := Lib.hid (by rw [← hW19]; exact ((HBH.out.setCell (by have h := HPS.out; simp; omega) _).setCell (by have h := HPS.out; simp; omega) _).setCell (by have h := HPS.out; simp; omega) _)
                    have HBRn : Hid (Since wr W19) := Lib.hid (by rw [← hW19]; exact (((Below.setCell (show Below wr.heap.size wr _ from HBRR.out) (by have h := HXY.out; simp; omega) _).setCell (by have h := HXY.out; simp; omega) _).setCell (by have h := HXY.out; simp; omega) _))
                    clear HX2 HY2 HBH HBRR
                    have HX2 := HX2n; have HY2 := HY2n; have HBH := HBHn; have HBRR := HBRn
                    clear HX2n HY2n HBHn HBRn hW19
                    clear bx0 bx1 bxx bxy bxq2
                    have bx0 := qbx0; have bx1 := qbx1; have bxx := qbxx; have bxy := qbxy; clear qbx0 qbx1 qbxx qbxy
                    have hB := HBH.out
                    have hBr := HBRR.out
                    have hx2 : LaIs false W19 WL.heap.size W19.heap.size (.agg #[.bool B2.fifo, .int .i64 B2.cap, .slice pC B2.l.length pc]) B2 := HX2.out.1.rng_ (fun k q => ⟨q.elim (fun q => q.1) (fun q => by have h := HXY.out; have := q.1; omega), HX2.out.2 k q⟩)
                    have hy2 : LaIs false W19 WL.heap.size W19.heap.size (.agg #[.bool B2.fifo, .int .i64 B2.cap, .slice qC B2.l.length qc]) B2 := HY2.out.1.rng_ (fun k q => ⟨q.elim (fun q => q.1) (fun q => by have h := HXY.out; have h3 := HZp.out; have := q.1; omega), HY2.out.2 k q⟩)
                    clear HBH HBRR HX2 HY2
                    go_wp2_with fail
                    go_meet
                    exact ⟨B2, E2, pC, qC, pc, qc, rfl, rfl, HBS2.out, HBR2.out, bxx, bxy, hx2, hy2, bx0, bx1, hBr, hB⟩
            case rest =>
              clear bx0 bx1 ha hr hBr hx1 bxx bxy hy1 hB
              obtain ⟨X, E, XA, YA, Xc, Yc, rfl, rfl, hxs, hxr, bxx, bxy, hx, hy, bx0, bx1, hBr, hB⟩ := hcut
              obtain ⟨W20, rfl⟩ : ∃ x : World, x = wc := ⟨_, rfl⟩
              have HXS := Lib.hid hxs; have HXQ := Lib.hid hxr; clear hxs hxr
              go_upto_region 20 with fail
              have ee : (E != E) = false := by simp
              have hx0 := hx.zero_; have hy0 := hy.zero_
              replace bx0 := bx0.next ((Below.refl _ _).drew)
              replace bx1 := bx1.next ((Below.refl _ _).drew)
              replace bxx := bxx.next ((Below.refl _ _).drew)
              replace bxy := bxy.next ((Below.refl _ _).drew)
              replace hBr := hBr.next ((Below.refl _ _).drew)
              replace hx := hx.next ((Below.refl _ _).drew)
              replace hy := hy.next ((Below.refl _ _).drew)
              replace hx0 := hx0.next ((Below.refl _ _).drew)
              replace hy0 := hy0.next ((Below.refl _ _).drew)
              replace hB := hB.drew
              have hE := Ext.refl (W20.drew)
              refine region_go 160 (by as_aux_lemma => kernel_rfl) ?_
              obtain ⟨d0, d1, d2⟩ := three_cells bxx
              refine wpAny_go 160 0 [0, 1, 2, 3, 4] 31 5 (by as_aux_lemma => kernel_rfl) (by as_aux_lemma => kernel_rfl) (fun _ _ _ _ _ h => h) (by as_aux_lemma => kernel_rfl) (by rfl) (by rfl) (by as_aux_lemma => kernel_rfl) ?_
              simp only [List.map_cons, List.map_nil, List.getD_cons_succ, List.getD_cons_zero]
              go_wp2_with fail
              change wpAnyM _ _ _ _ _ _ _ _ _ _
              clear d0 d1 d2
              obtain ⟨t0, t1, t2⟩ := three_cells bxy
              refine wpAny_reads 160 31 [6] 95 4 (by as_aux_lemma => kernel_rfl) (by as_aux_lemma => kernel_rfl) (fun _ _ _ _ _ h => h) (by as_aux_lemma => kernel_rfl) (by rfl) (by rfl) (by as_aux_lemma => kernel_rfl) ?_
              simp only [List.map_cons, List.map_nil, List.getD_cons_succ, List.getD_cons_zero]
              go_wp2_with fail
              change _ → wpAnyM _ _ _ _ _ _ _ _ _ _; intro _
              clear t0 t1 t2
              refine wpAny_oneM 5 127 (by as_aux_lemma => kernel_rfl) (by as_aux_lemma => kernel_rfl) (of_decide_eq_true (by as_aux_lemma => kernel_rfl)) (by rfl) ?_
              simp only [List.getD_cons_succ, List.getD_cons_zero]
              go_wp2_with fail
              refine (claref hx0 HXS.out).mono ?_
              rintro e w21 ⟨⟨ZA, Zc, rfl, hz⟩, hb⟩
              replace bx0 := bx0.next hb
              replace bx1 := bx1.next hb
              replace bxx := bxx.next hb
              replace bxy := bxy.next hb
              replace hBr := hBr.next hb
              replace hx := hx.next hb
              replace hy := hy.next hb
              replace hx0 := hx0.next hb
              replace hy0 := hy0.next hb
              replace hE := hE.trans (Ext.below hb (Nat.le_refl _))
              replace hB := hB.trans (hb.mono hB.size)
              clear hb
              go_wp2_with fail
              refine ⟨fun _ => hE, ?_⟩
              refine wpAny_oneM 7 255 (by as_aux_lemma => kernel_rfl) (by as_aux_lemma => kernel_rfl) (of_decide_eq_true (by as_aux_lemma => kernel_rfl)) (by rfl) ?_
              simp only [List.getD_cons_succ, List.getD_cons_zero]
              go_wp2_with fail
              refine (crasame hz hy0 (decide_eq_true rfl)).mono ?_
              rintro e w22 ⟨rfl, hb⟩
              replace bx0 := bx0.next hb
              replace bx1 := bx1.next hb
              replace bxx := bxx.next hb
              replace bxy := bxy.next hb
              replace hBr := hBr.next hb
              replace hx := hx.next hb
              replace hy := hy.next hb
              replace hx0 := hx0.next hb
              replace hy0 := hy0.next hb
              replace hz := hz.next hb
              replace hE := hE.trans (Ext.below hb (Nat.le_refl _))
              replace hB := hB.trans (hb.mono hB.size)
              clear hb
              go_wp2_with fail
              refine ⟨fun _ => hE, ?_⟩
              refine wpAny_go 160 255 [8, 9] 1023 0 (by as_aux_lemma => kernel_rfl) (by as_aux_lemma => kernel_rfl) (fun _ _ _ _ _ h => h) (by as_aux_lemma => kernel_rfl) (by rfl) (by rfl) (by as_aux_lemma => kernel_rfl) ?_
              simp only [List.map_cons, List.map_nil, List.getD_cons_succ, List.getD_cons_zero]
              go_wp2_with fail
              change wpAnyM _ _ _ _ _ _ _ _ _ _
              refine wpAny_endM (by as_aux_lemma => kernel_rfl) (by as_aux_lemma => kernel_rfl) ?_
              clear hx0 hy0 hz
              go_upto_if 112 with fail
              go_cut [] (fun wx => ∃ (Y : La) (YA ZA : Option Addr) (Yc Zc : Nat), Y.Small ∧ La.right Y = true ∧ Box wx w.heap.size #[.bool Y.fifo, .int .i64 Y.cap, .slice YA Y.l.length Yc] 25 ∧ Box wx (WR.heap.size) #[.bool Y.fifo, .int .i64 Y.cap, .slice ZA Y.l.length Zc] 28 ∧ LaIs false wx WL.heap.size wx.heap.size (.agg #[.bool Y.fifo, .int .i64 Y.cap, .slice YA Y.l.length Yc]) Y ∧ LaIs false wx WL.heap.size wx.heap.size (.agg #[.bool Y.fifo, .int .i64 Y.cap, .slice ZA Y.l.length Zc]) Y ∧ WL.heap.size ≤ wx.heap.size ∧ Below w.heap.size w wx)
              case first =>
                by_cases hE : E = 0
                ·
                  have hxr : La.right X = true := HXQ.out hE
                  have HXR := Lib.hid hxr; clear hxr
                  have HGX := Lib.hid (show w.heap.size ≠ w3.heap.size ∧ WR.heap.size ≠ w3.heap.size ∧ w.heap.size ≠ gy ∧ WR.heap.size ≠ gy ∧ w.heap.size < WR.heap.size ∧ WR.heap.size < WL.heap.size from by have h := HXY.out; have h2 := HG8.out; omega)
                  have heb : (E == 0) = true := by simp [hE]
                  clear hE
                  obtain ⟨d0, d1, d2⟩ := three_cells bxx
                  obtain ⟨t0, t1, t2⟩ := three_cells bx0
                  have tf0 := three_free bx0 0
                  have tf1 := three_free bx0 1
                  have tf2 := three_free bx0 2
                  have hl0 := bxx.lt; have hl1 := bx0.lt
                  have HBH := Lib.hid hB; have HXX := Lib.hid hx; have HYY := Lib.hid hy; have HZo := Lib.hid (Nat.le_trans hlo hBr.size); clear hB hx hy hBr
                  go_upto_region 24 with fail
                  clear d0 d1 d2
                  clear t0 t1 t2
                  clear tf0 tf1 tf2
                  clear hl0 hl1
                  refine name_wp fun W23 hW23 => ?_
                  have q0 : Box W23 w.heap.size #[.bool X.fifo, .int .i64 X.cap, .slice XA X.l.length Xc] 25 := by rw [← hW23]; exact blk_set (blk_set (blk_set bx0 0 _) 1 _) 2 _
                  have q1 : Box W23 (WR.heap.size) #[.bool a.fifo, .int .i64 a.cap, .slice VA a.l.length vc] 28 := by rw [← hW23]; exact (three_other (by have h := HGX.out; omega)).trans bx1
                  have q2 : Box W23 gy #[.bool X.fifo, .int .i64 X.cap, .slice YA X.l.length Yc] 28 := by rw [← hW23]; exact (three_other (by have h := HGX.out; omega)).trans bxy
                  have q3 : LaIs false W23 WL.heap.size W23.heap.size (.agg #[.bool X.fifo, .int .i64 X.cap, .slice XA X.l.length Xc]) X := by rw [← hW23]; exact (HXX.out.keep fun k h1 _ => three_other (by have h := HGX.out; omega)).widen (Nat.le_refl _) (Nat.le_of_eq three_size.symm)
                  have q4 : LaIs false W23 WL.heap.size W23.heap.size (.agg #[.bool X.fifo, .int .i64 X.cap, .slice YA X.l.length Yc]) X := by rw [← hW23]; exact (HYY.out.keep fun k h1 _ => three_other (by have h := HGX.out; omega)).widen (Nat.le_refl _) (Nat.le_of_eq three_size.symm)
                  have q5 : Below w.heap.size w W23 := by rw [← hW23]; exact ((HBH.out.setCell (by simp) _).setCell (by simp) _).setCell (by simp) _
                  have q6 : WL.heap.size ≤ W23.heap.size := by rw [← hW23, three_size]; exact HZo.out
                  clear hW23 bx0 bx1 bxx bxy HXX HYY HBH HZo
                  obtain ⟨d0, d1, d2⟩ := three_cells q2
                  obtain ⟨t0, t1, t2⟩ := three_cells q1
                  have tf0 := three_free q1 0
                  have tf1 := three_free q1 1
                  have tf2 := three_free q1 2
                  have hl0 := q2.lt; have hl1 := q1.lt
                  have HBH := Lib.hid q5; have HXX := Lib.hid q3; have HYY := Lib.hid q4; have HZo := Lib.hid q6; have HQ0 := Lib.hid q0; clear q0 q3 q4 q5 q6
                  go_wp2_with fail
                  clear d0 d1 d2
                  clear t0 t1 t2
                  clear tf0 tf1 tf2
                  clear hl0 hl1
                  refine name_met fun W24 hW24 => ?_
                  have bx0 : Box W24 w.heap.size #[.bool X.fifo, .int .i64 X.cap, .slice XA X.l.length Xc] 25 := by rw [← hW24]; exact (three_other (by have h := HGX.out; omega)).trans HQ0.out
                  have bx1 : Box W24 (WR.heap.size) #[.bool X.fifo, .int .i64 X.cap, .slice YA X.l.length Yc] 28 := by rw [← hW24]; exact blk_set (blk_set (blk_set q1 0 _) 1 _) 2 _
                  have ha : LaIs false W24 WL.heap.size W24.heap.size (.agg #[.bool X.fifo, .int .i64 X.cap, .slice XA X.l.length Xc]) X := by rw [← hW24]; exact (HXX.out.keep fun k h1 _ => three_other (by have h := HGX.out; omega)).widen (Nat.le_refl _) (Nat.le_of_eq three_size.symm)
                  have hr : LaIs false W24 WL.heap.size W24.heap.size (.agg #[.bool X.fifo, .int .i64 X.cap, .slice YA X.l.length Yc]) X := by rw [← hW24]; exact (HYY.out.keep fun k h1 _ => three_other (by have h := HGX.out; omega)).widen (Nat.le_refl _) (Nat.le_of_eq three_size.symm)
                  have hB : Below w.heap.size w W24 := by rw [← hW24]; exact ((HBH.out.setCell (by have h := HGX.out; simp; omega) _).setCell (by have h := HGX.out; simp; omega) _).setCell (by have h := HGX.out; simp; omega) _
                  have hlo24 : WL.heap.size ≤ W24.heap.size := by rw [← hW24, three_size]; exact HZo.out
                  clear hW24 q1 q2 HXX HYY HBH HZo HQ0
                  go_meet
                  exact ⟨X, XA, YA, Xc, Yc, HXS.out, HXR.out, bx0, bx1, ha, hr, hlo24, hB⟩
                ·
                  have heb : (E == 0) = false := by simpa using hE
                  clear hE
                  clear bxx bxy hx hy
                  go_wp2_with fail
                  have hlo24 := Nat.le_trans hlo hBr.size
                  have ha := (HA0.out.keep fun _ _ q => hBr.block _ q).widen (Nat.le_refl _) hBr.size
                  have hr := (HR0.out.keep fun _ _ q => hBr.block _ q).widen (Nat.le_refl _) hBr.size
                  clear hBr
                  go_meet
                  exact ⟨a, UA, VA, uc, vc, HSM.out, HQR.out, bx0, bx1, ha, hr, hlo24, hB⟩
              case rest =>
                clear bx0 bx1 bxx bxy hBr hx hy hB
                obtain ⟨Y, YA, ZA, Yc, Zc, hys, hyr, bx0, bx1, ha, hr, hlo24, hB⟩ := hcut
                obtain ⟨W24, rfl⟩ : ∃ x : World, x = wc := ⟨_, rfl⟩
                have HYS := Lib.hid hys; have HYR := Lib.hid hyr; clear hys hyr
                go_upto_region 25 with fail
                obtain ⟨hkd, hcp, _⟩ := La.right_parts HYR.out
                have HKD := Lib.hid hkd; have HCP := Lib.hid hcp; clear hkd hcp
                obtain ⟨n0, hn0⟩ : ∃ n, La.cnt 0 Y.l = n := ⟨_, rfl⟩
                obtain ⟨n1, hn1⟩ : ∃ n, La.cnt x.i Y.l = n := ⟨_, rfl⟩
                obtain ⟨ft, hft⟩ : ∃ q, La.fits Y x.i = q := ⟨_, rfl⟩
                have HN0 := Lib.hid hn0; have HN1 := Lib.hid hn1; have HFT := Lib.hid hft; clear hn0 hn1 hft
                have z0 : ((n0 : Int) != (n0 : Int)) = false := by simp
                have z1 : ((n1 : Int) != (n1 : Int)) = false := by simp
                have z2 : (ft != ft) = false := by simp
                have ha0 := ha.zero_; have hr0 := hr.zero_
                have hBq := Since.refl W24
                have HAA := Lib.hid ha; have HRR := Lib.hid hr; clear ha hr
                replace bx0 := bx0.next ((Below.refl _ _).drew)
                replace bx1 := bx1.next ((Below.refl _ _).drew)
                replace ha0 := ha0.next ((Below.refl _ _).drew)
                replace hr0 := hr0.next ((Below.refl _ _).drew)
                replace hBq := hBq.next ((Below.refl _ _).drew)
                replace hB := hB.drew
                have hE := Ext.refl (W24.drew)
                refine region_go 917009894342818 (by as_aux_lemma => kernel_rfl) ?_
                obtain ⟨d0, d1, d2⟩ := three_cells bx0
                refine wpAny_go 917009894342818 0 [0] 1 51 (by as_aux_lemma => kernel_rfl) (by as_aux_lemma => kernel_rfl) (fun _ _ _ _ _ h => h) (by as_aux_lemma => kernel_rfl) (by rfl) (by rfl) (by as_aux_lemma => kernel_rfl) ?_
                simp only [List.map_cons, List.map_nil, List.getD_cons_zero]
                go_wp2_with fail
                change wpAnyM _ _ _ _ _ _ _ _ _ _
                clear d0 d1 d2
                refine wpAny_oneM 1 3 (by as_aux_lemma => kernel_rfl) (by as_aux_lemma => kernel_rfl) (of_decide_eq_true (by as_aux_lemma => kernel_rfl)) (by rfl) ?_
                simp only [List.getD_cons_succ, List.getD_cons_zero]
                go_wp2_with fail
                refine (claright ha0 HYS.out.len HYR.out).mono ?_
                rintro e w25 ⟨rfl, hb⟩
                replace bx0 := bx0.next hb
                replace bx1 := bx1.next hb
                replace ha0 := ha0.next hb
                replace hr0 := hr0.next hb
                replace hBq := hBq.next hb
                replace hE := hE.trans (Ext.below hb (Nat.le_refl _))
                replace hB := hB.trans (hb.mono hB.size)
                clear hb
                go_wp2_with fail
                refine ⟨fun _ => hE, ?_⟩
                obtain ⟨d0, d1, d2⟩ := three_cells bx0
                refine wpAny_go 917009894342818 3 [2, 3, 4] 31 47 (by as_aux_lemma => kernel_rfl) (by as_aux_lemma => kernel_rfl) (fun _ _ _ _ _ h => h) (by as_aux_lemma => kernel_rfl) (by rfl) (by rfl) (by as_aux_lemma => kernel_rfl) ?_
                simp only [List.map_cons, List.map_nil, List.getD_cons_succ, List.getD_cons_zero]
                go_wp2_with fail
                change wpAnyM _ _ _ _ _ _ _ _ _ _
                clear d0 d1 d2
                obtain ⟨d0, d1, d2⟩ := three_cells bx1
                refine wpAnyM_rebase hE _ _ _ _ ?_
                clear hE
                have hE := Ext.refl w25
                refine wpAny_reads 917009894342818 31 [6] 95 46 (by as_aux_lemma => kernel_rfl) (by as_aux_lemma => kernel_rfl) (fun _ _ _ _ _ h => h) (by as_aux_lemma => kernel_rfl) (by rfl) (by rfl) (by as_aux_lemma => kernel_rfl) ?_
                simp only [List.map_cons, List.map_nil, List.getD_cons_succ, List.getD_cons_zero]
                go_wp2_with fail
                change _ → wpAnyM _ _ _ _ _ _ _ _ _ _; intro _
                clear d0 d1 d2
                refine wpAny_oneM 5 127 (by as_aux_lemma => kernel_rfl) (by as_aux_lemma => kernel_rfl) (of_decide_eq_true (by as_aux_lemma => kernel_rfl)) (by rfl) ?_
                simp only [List.getD_cons_succ, List.getD_cons_zero]
                go_wp2_with fail
                refine (claapps ha0 HKD.out HYS.out.len HN0.out).mono ?_
                rintro e w26 ⟨rfl, hb⟩
                replace bx0 := bx0.next hb
                replace bx1 := bx1.next hb
                replace ha0 := ha0.next hb
                replace hr0 := hr0.next hb
                replace hBq := hBq.next hb
                replace hE := hE.trans (Ext.below hb (Nat.le_refl _))
                replace hB := hB.trans (hb.mono hB.size)
                clear hb
                go_wp2_with fail
                refine ⟨fun _ => hE, ?_⟩
                refine wpAny_oneM 7 255 (by as_aux_lemma => kernel_rfl) (by as_aux_lemma => kernel_rfl) (of_decide_eq_true (by as_aux_lemma => kernel_rfl)) (by rfl) ?_
                simp only [List.getD_cons_succ, List.getD_cons_zero]
                go_wp2_with fail
                refine (cracount hr0 HN0.out).mono ?_
                rintro e w27 ⟨rfl, hb⟩
                replace bx0 := bx0.next hb
                replace bx1 := bx1.next hb
                replace ha0 := ha0.next hb
                replace hr0 := hr0.next hb
                replace hBq := hBq.next hb
                replace hE := hE.trans (Ext.below hb (Nat.le_refl _))
                replace hB := hB.trans (hb.mono hB.size)
                clear hb
                go_wp2_with fail
                refine ⟨fun _ => hE, ?_⟩
                obtain ⟨d0, d1, d2⟩ := three_cells bx0
                have ci := (cell_of_block (hB.block g hg)).trans HCI.out
                have hgc := Nat.lt_of_lt_of_le hg hB.size
                refine wpAny_go 917009894342818 255 [8, 9, 10, 11, 12, 13, 14, 15, 16] 131071 35 (by as_aux_lemma => kernel_rfl) (by as_aux_lemma => kernel_rfl) (fun _ _ _ _ _ h => h) (by as_aux_lemma => kernel_rfl) (by rfl) (by rfl) (by as_aux_lemma => kernel_rfl) ?_
                simp only [List.map_cons, List.map_nil, List.getD_cons_succ, List.getD_cons_zero]
                go_wp2_with fail
                change wpAnyM _ _ _ _ _ _ _ _ _ _
                clear d0 d1 d2
                clear ci hgc
                obtain ⟨d0, d1, d2⟩ := three_cells bx1
                have ci := (cell_of_block (hB.block g hg)).trans HCI.out
                have hgc := Nat.lt_of_lt_of_le hg hB.size
                refine wpAnyM_rebase hE _ _ _ _ ?_
                clear hE
                have hE := Ext.refl w27
                refine wpAny_reads 917009894342818 131071 [18, 19, 20, 21, 22, 23] 16646143 29 (by as_aux_lemma => kernel_rfl) (by as_aux_lemma => kernel_rfl) (fun _ _ _ _ _ h => h) (by as_aux_lemma => kernel_rfl) (by rfl) (by rfl) (by as_aux_lemma => kernel_rfl) ?_
                simp only [List.map_cons, List.map_nil, List.getD_cons_succ, List.getD_cons_zero]
                go_wp2_with fail
                change _ → wpAnyM _ _ _ _ _ _ _ _ _ _; intro _
                clear d0 d1 d2
                clear ci hgc
                refine wpAny_oneM 17 16777215 (by as_aux_lemma => kernel_rfl) (by as_aux_lemma => kernel_rfl) (of_decide_eq_true (by as_aux_lemma => kernel_rfl)) (by rfl) ?_
                simp only [List.getD_cons_succ, List.getD_cons_zero]
                go_wp2_with fail
                refine (clacount ha0 HWF.out HKD.out HYS.out.len HN1.out).mono ?_
                rintro e w28 ⟨rfl, hb⟩
                replace bx0 := bx0.next hb
                replace bx1 := bx1.next hb
                replace ha0 := ha0.next hb
                replace hr0 := hr0.next hb
                replace hBq := hBq.next hb
                replace hE := hE.trans (Ext.below hb (Nat.le_refl _))
                replace hB := hB.trans (hb.mono hB.size)
                clear hb
                go_wp2_with fail
                refine ⟨fun _ => hE, ?_⟩
                refine wpAny_oneM 24 33554431 (by as_aux_lemma => kernel_rfl) (by as_aux_lemma => kernel_rfl) (of_decide_eq_true (by as_aux_lemma => kernel_rfl)) (by rfl) ?_
                simp only [List.getD_cons_succ, List.getD_cons_zero]
                go_wp2_with fail
                refine (cracount hr0 HN1.out).mono ?_
                rintro e w29 ⟨rfl, hb⟩
                replace bx0 := bx0.next hb
                replace bx1 := bx1.next hb
                replace ha0 := ha0.next hb
                replace hr0 := hr0.next hb
                replace hBq := hBq.next hb
                replace hE := hE.trans (Ext.below hb (Nat.le_refl _))
                replace hB := hB.trans (hb.mono hB.size)
                clear hb
                go_wp2_with fail
                refine ⟨fun _ => hE, ?_⟩
                obtain ⟨d0, d1, d2⟩ := three_cells bx0
                have ci := (cell_of_block (hB.block g hg)).trans HCI.out
                have hgc := Nat.lt_of_lt_of_le hg hB.size
                refine wpAny_go 917009894342818 33554431 [25, 26, 27, 28, 29, 30, 31, 32, 33] 17179869183 18 (by as_aux_lemma => kernel_rfl) (by as_aux_lemma => kernel_rfl) (fun _ _ _ _ _ h => h) (by as_aux_lemma => kernel_rfl) (by rfl) (by rfl) (by as_aux_lemma => kernel_rfl) ?_
                simp only [List.map_cons, List.map_nil, List.getD_cons_succ, List.getD_cons_zero]
                go_wp2_with fail
                change wpAnyM _ _ _ _ _ _ _ _ _ _
                clear d0 d1 d2
                clear ci hgc
                obtain ⟨d0, d1, d2⟩ := three_cells bx1
                have ci := (cell_of_block (hB.block g hg)).trans HCI.out
                have hgc := Nat.lt_of_lt_of_le hg hB.size
                refine wpAnyM_rebase hE _ _ _ _ ?_
                clear hE
                have hE := Ext.refl w29
                refine wpAny_reads 917009894342818 17179869183 [35, 36, 37, 38, 39, 40] 2181843386367 12 (by as_aux_lemma => kernel_rfl) (by as_aux_lemma => kernel_rfl) (fun _ _ _ _ _ h => h) (by as_aux_lemma => kernel_rfl) (by rfl) (by rfl) (by as_aux_lemma => kernel_rfl) ?_
                simp only [List.map_cons, List.map_nil, List.getD_cons_succ, List.getD_cons_zero]
                go_wp2_with fail
                change _ → wpAnyM _ _ _ _ _ _ _ _ _ _; intro _
                clear d0 d1 d2
                clear ci hgc
                refine wpAny_oneM 34 2199023255551 (by as_aux_lemma => kernel_rfl) (by as_aux_lemma => kernel_rfl) (of_decide_eq_true (by as_aux_lemma => kernel_rfl)) (by rfl) ?_
                simp only [List.getD_cons_succ, List.getD_cons_zero]
                go_wp2_with fail
                refine (clafits ha0 HCP.out HKD.out HYS.out.len HFT.out).mono ?_
                rintro e w30 ⟨rfl, hb⟩
                replace bx0 := bx0.next hb
                replace bx1 := bx1.next hb
                replace ha0 := ha0.next hb
                replace hr0 := hr0.next hb
                replace hBq := hBq.next hb
                replace hE := hE.trans (Ext.below hb (Nat.le_refl _))
                replace hB := hB.trans (hb.mono hB.size)
                clear hb
                go_wp2_with fail
                refine ⟨fun _ => hE, ?_⟩
                refine wpAny_oneM 41 4398046511103 (by as_aux_lemma => kernel_rfl) (by as_aux_lemma => kernel_rfl) (of_decide_eq_true (by as_aux_lemma => kernel_rfl)) (by rfl) ?_
                simp only [List.getD_cons_succ, List.getD_cons_zero]
                go_wp2_with fail
                refine (crafits hr0 HCP.out HFT.out).mono ?_
                rintro e w31 ⟨rfl, hb⟩
                replace bx0 := bx0.next hb
                replace bx1 := bx1.next hb
                replace ha0 := ha0.next hb
                replace hr0 := hr0.next hb
                replace hBq := hBq.next hb
                replace hE := hE.trans (Ext.below hb (Nat.le_refl _))
                replace hB := hB.trans (hb.mono hB.size)
                clear hb
                go_wp2_with fail
                refine ⟨fun _ => hE, ?_⟩
                obtain ⟨d0, d1, d2⟩ := three_cells bx0
                refine wpAny_go 917009894342818 4398046511103 [42, 43, 44, 45] 70368744177663 6 (by as_aux_lemma => kernel_rfl) (by as_aux_lemma => kernel_rfl) (fun _ _ _ _ _ h => h) (by as_aux_lemma => kernel_rfl) (by rfl) (by rfl) (by as_aux_lemma => kernel_rfl) ?_
                simp only [List.map_cons, List.map_nil, List.getD_cons_succ, List.getD_cons_zero]
                go_wp2_with fail
                change wpAnyM _ _ _ _ _ _ _ _ _ _
                clear d0 d1 d2
                obtain ⟨d0, d1, d2⟩ := three_cells bx1
                refine wpAnyM_rebase hE _ _ _ _ ?_
                clear hE
                have hE := Ext.refl w31
                refine wpAny_reads 917009894342818 70368744177663 [47] 211106232532991 5 (by as_aux_lemma => kernel_rfl) (by as_aux_lemma => kernel_rfl) (fun _ _ _ _ _ h => h) (by as_aux_lemma => kernel_rfl) (by rfl) (by rfl) (by as_aux_lemma => kernel_rfl) ?_
                simp only [List.map_cons, List.map_nil, List.getD_cons_succ, List.getD_cons_zero]
                go_wp2_with fail
                change _ → wpAnyM _ _ _ _ _ _ _ _ _ _; intro _
                clear d0 d1 d2
                refine wpAny_oneM 46 281474976710655 (by as_aux_lemma => kernel_rfl) (by as_aux_lemma => kernel_rfl) (of_decide_eq_true (by as_aux_lemma => kernel_rfl)) (by rfl) ?_
                simp only [List.getD_cons_succ, List.getD_cons_zero]
                go_wp2_with fail
                refine (clamsgs ha0 HYS.out.len rfl).mono ?_
                rintro e w32 ⟨⟨MA, mc, rfl, hm1⟩, hb⟩
                replace bx0 := bx0.next hb
                replace bx1 := bx1.next hb
                replace ha0 := ha0.next hb
                replace hr0 := hr0.next hb
                replace hBq := hBq.next hb
                replace hE := hE.trans (Ext.below hb (Nat.le_refl _))
                replace hB := hB.trans (hb.mono hB.size)
                clear hb
                go_wp2_with fail
                refine ⟨fun _ => hE, ?_⟩
                refine wpAny_oneM 48 562949953421311 (by as_aux_lemma => kernel_rfl) (by as_aux_lemma => kernel_rfl) (of_decide_eq_true (by as_aux_lemma => kernel_rfl)) (by rfl) ?_
                simp only [List.getD_cons_succ, List.getD_cons_zero]
                go_wp2_with fail
                refine (cramsgs hr0 HYS.out.len rfl).mono ?_
                rintro e w33 ⟨⟨NA, nc, rfl, hm2⟩, hb⟩
                replace bx0 := bx0.next hb
                replace bx1 := bx1.next hb
                replace ha0 := ha0.next hb
                replace hr0 := hr0.next hb
                replace hBq := hBq.next hb
                replace hm1 := hm1.next hb
                replace hE := hE.trans (Ext.below hb (Nat.le_refl _))
                replace hB := hB.trans (hb.mono hB.size)
                clear hb
                go_wp2_with fail
                refine ⟨fun _ => hE, ?_⟩
                refine wpAny_oneM 49 1125899906842623 (by as_aux_lemma => kernel_rfl) (by as_aux_lemma => kernel_rfl) (of_decide_eq_true (by as_aux_lemma => kernel_rfl)) (by rfl) ?_
                simp only [List.getD_cons_succ, List.getD_cons_zero]
                go_wp2_with fail
                refine (crmsgs hm1 hm2 (decide_eq_true rfl)).mono ?_
                rintro e w34 ⟨rfl, hb⟩
                replace bx0 := bx0.next hb
                replace bx1 := bx1.next hb
                replace ha0 := ha0.next hb
                replace hr0 := hr0.next hb
                replace hBq := hBq.next hb
                replace hm1 := hm1.next hb
                replace hm2 := hm2.next hb
                replace hE := hE.trans (Ext.below hb (Nat.le_refl _))
                replace hB := hB.trans (hb.mono hB.size)
                clear hb
                go_wp2_with fail
                refine ⟨fun _ => hE, ?_⟩
                refine wpAny_go 917009894342818 1125899906842623 [50, 51] 4503599627370495 0 (by as_aux_lemma => kernel_rfl) (by as_aux_lemma => kernel_rfl) (fun _ _ _ _ _ h => h) (by as_aux_lemma => kernel_rfl) (by rfl) (by rfl) (by as_aux_lemma => kernel_rfl) ?_
                simp only [List.map_cons, List.map_nil, List.getD_cons_succ, List.getD_cons_zero]
                go_wp2_with fail
                change wpAnyM _ _ _ _ _ _ _ _ _ _
                refine wpAny_endM (by as_aux_lemma => kernel_rfl) (by as_aux_lemma => kernel_rfl) ?_
                go_wp2_with fail
                go_roundg (60 - (j + 1))
                case rel => exact ⟨j + 1, Y, YA, ZA, Yc, Zc, by simp, by omega, by omega, rfl, HYS.out, bx0, bx1, (HAA.out.keep fun _ _ q => hBq.block _ q).widen (Nat.le_refl _) hBq.size, (HRR.out.keep fun _ _ q => hBq.block _ q).widen (Nat.le_refl _) hBq.size, Nat.le_trans hlo24 hBq.size, hB⟩
                case measure => have := HM.out; omega
      ·
        have h60i : ¬ ((j : Int) < 60) := by omega
        go_wp2_with fail
        refine (fixed8_any _).mono ?_
        rintro e wz ⟨rfl, hb⟩
        replace hB := hB.trans (hb.mono hB.size)
        go_wp2_with fail
        go_ret
        exact ⟨rfl, hB⟩
    ·
      go_wp2_with fail
      refine (fixed8_any _).mono ?_
      rintro e wz ⟨rfl, hb⟩
      replace hB := hB.trans (hb.mono hB.size)
      go_wp2_with fail
      go_ret
      exact ⟨rfl, hB⟩
end Go.Proofs.Ytkkbblpofhenpaa.laneDoes
