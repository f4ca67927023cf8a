/- Lemmas, walks and contracts that the statements of this seat are proved by. -/
import Derived.Test.YtdfgnmdofjhnkaaG6
import Derived.Test.YtdfgnmdofjhnkaaG7
import Derived.Deep.RegionLaw
import Derived.Deep.DrawnRows
import Derived.Deep.CutBlock
/- The document's Decode, for pieces. -/
namespace Go.Proofs.Ytdfgnmdofjhnkaa
open Go.RowKit

/-- While a piece is read: the reader is block g, the piece's cells are block gp. -/
structure QInv (g lo gp : Nat) (W w : World) (l : List Int) (m : Nat) (cs : Array Value) : Prop where
  rn : RN g lo w l m
  p : w.heap[gp]? = some (.cells cs 32 (0, 0))
  hp : g < gp
  low : Below g W w
section
variable {g lo gp m : Nat} {W w w' : World} {l l' : List Int} {cs : Array Value} {a b c d e f : Value}
theorem QInv.step (h : QInv g lo gp W w l m cs) (hr : RN g lo w' l' (m + 1)) (hg : w.grownBy w' (some g)) : QInv g lo gp W w' l' (m + 1) cs :=
  ⟨hr, grown_cell hg h.p (by have := h.hp; omega), h.hp, h.low.trans ⟨hg.os, hg.tape, hg.output, hg.size, fun k hk => hg.block k (Nat.lt_trans hk h.rn.lt) (by intro e; injection e; omega)⟩⟩
theorem QInv.below (h : QInv g lo gp W w l m cs) (hb : Below w.heap.size w w') : QInv g lo gp W w' l m cs :=
  ⟨h.rn.far (fun b hb2 => hb.block b (by have := h.rn.lt; omega)), (hb.block _ (lt_of_block h.p)).trans h.p, h.hp, h.low.trans (hb.mono (Nat.le_of_lt h.rn.lt))⟩
/-- What append leaves: a row above gp has turned. -/
theorem QInv.above (h : QInv g lo gp W w l m cs) (hb : Below (gp + 1) w w') : QInv g lo gp W w' l m cs :=
  ⟨h.rn.far (fun b hb2 => hb.block b (by have := h.hp; omega)), (hb.block gp (by omega)).trans h.p, h.hp, h.low.trans (hb.mono (by have := h.hp; omega))⟩
theorem QInv.drew (h : QInv g lo gp W w l m cs) : QInv g lo gp W w.drew l m cs := h.below ((Below.refl _ _).drew)
theorem QInv.set_ (h : QInv g lo gp W w l m cs) (i : Nat) (u : Value) : QInv g lo gp W (w.setCell ⟨gp, i, none⟩ u) l m (cs.setIfInBounds i u) :=
  ⟨h.rn.far (fun b hb => heap_setCell_other _ _ _ _ (by have := h.hp; simp; omega)), blk_set h.p i u, h.hp, h.low.setCell (by have := h.hp; simp; omega) _⟩
theorem QInv.set3 (h : QInv g lo gp W w l m #[a, b, c, d, e, f]) (u : Value) : QInv g lo gp W (w.setCell ⟨gp, 3, none⟩ u) l m #[a, b, c, u, e, f] := h.set_ 3 u
theorem QInv.set4 (h : QInv g lo gp W w l m #[a, b, c, d, e, f]) (u : Value) : QInv g lo gp W (w.setCell ⟨gp, 4, none⟩ u) l m #[a, b, c, d, u, f] := h.set_ 4 u
theorem QInv.set5 (h : QInv g lo gp W w l m #[a, b, c, d, e, f]) (u : Value) : QInv g lo gp W (w.setCell ⟨gp, 5, none⟩ u) l m #[a, b, c, d, e, u] := h.set_ 5 u
theorem QInv.lt (h : QInv g lo gp W w l m cs) : gp < w.heap.size := lt_of_block h.p
theorem QInv.more (h : QInv g lo gp W w l m cs) {m' : Nat} (hm : m ≤ m') : QInv g lo gp W w l m' cs := by
  obtain ⟨A, c, L, at_, h1, h2, h3, h4, h5, h6⟩ := h.rn
  exact ⟨⟨A, c, L, at_, h1, h2, h3, h4, h5, Nat.le_trans h6 hm⟩, h.p, h.hp, h.low⟩
theorem qnext (h : QInv g lo gp W w l m cs) (hm : m ≤ 1000000) : Calls Try.prog 55 #[.pointer (some ⟨g, 0, none⟩)] w
    fun x w' => x = .returned (.int .i64 (Pc.nx l).1) ∧ QInv g lo gp W w' (Pc.nx l).2 (m + 1) cs ∧ w.grownBy w' (some g) :=
  (rnext_any g lo m l w h.rn hm).mono fun _ _ ⟨h1, h2, h3⟩ => ⟨h1, h.step h2 h3, h3⟩
end
theorem Keeps.grown {gp g : Nat} {W w w' : World} (h : Keeps gp W w) (hg : w.grownBy w' (some g)) (hlt : g < gp) : Keeps gp W w' := h.trans ⟨hg.size, fun b h1 h2 => grown_keep hg h2 (by omega)⟩
theorem Keeps.above {gp B : Nat} {W w w' : World} (h : Keeps gp W w) (hb : Below B w w') (hB : W.heap.size ≤ B) : Keeps gp W w' := ⟨Nat.le_trans h.1 hb.size, fun b h1 h2 => (hb.block b (by omega)).trans (h.2 b h1 h2)⟩
theorem Keeps.refl (gp : Nat) (w : World) : Keeps gp w w := ⟨Nat.le_refl _, fun _ _ _ => rfl⟩
theorem cnt_lt (most : Int) (l : List Int) (j : Nat) (hm : 0 ≤ most) : ((j : Int) < (Pc.nx l).1 ∧ (j : Int) < most) ↔ j < (Pc.cnt most l).1.toNat := by
  simp only [Pc.cnt]; omega

set_option maxRecDepth 100000 in
set_option maxHeartbeats 8000000 in
theorem rdecode_ok (s : ByteArray) (l : List Nat) (w : World) (hs : s.size ≤ 1000000) (hl : W.all s.data.toList = .ok l) : Calls Try.prog 20 #[.string s] w
    fun x w' => (∃ v, x = .returned (.tuple #[v, .int .i64 (Pc.decE s.data.toList)]) ∧ PieceIs true w' w.heap.size w'.heap.size v (Pc.dec s.data.toList)) ∧ Below w.heap.size w w' := by
  have hA := fun w => rall_any s w (by omega)
  rw [hl] at hA
  have HA := Lib.hid hA; clear hA
  have HL := Lib.hid hl; clear hl
  go_enter Try.func20, Try.ntmps20
  go_wp2_with fail
  refine (HA.out _).mono ?_
  rintro e w1 ⟨⟨v, rfl, hown⟩, hb1⟩
  have hres : w1.heap[w.heap.size]? = some (.cells #[.int .i64 0, .int .i64 0, .int .i64 0, .slice none 0 0, .slice none 0 0, .slice none 0 0] 32 (0, 0)) := (hb1.block _ (by simp)).trans (heap_alloc_new _ _)
  have hlt1 := lt_of_block hres
  have hv : SliceIs Rep.int false w1 w.heap.size w1.heap.size v (Pc.zs l) := by
    have h2 : w1.ownsRow (w.heap.size + 1) 3 1 v (Pc.zs l).length (ints (Pc.zs l)) := by
      rw [← i64s_ints]; simpa [Pc.zs] using hown
    exact (SliceIs.of_own (r := Rep.int) (fr := true) (lo := w.heap.size) h2 (ints_all _ _ _ _) (Nat.le_succ _) (Nat.le_refl _)).soft
  obtain ⟨Av, cv, hve, hlv, hmv, hav⟩ := hv
  clear hown
  subst hve
  have hbr : Below w1.heap.size w1 (w1.alloc (.cells #[.slice Av (Pc.zs l).length cv, .int .i64 0] 94)) := (Below.refl _ _).alloc (Nat.le_refl _) _
  have hRN : RN w1.heap.size w.heap.size (w1.alloc (.cells #[.slice Av (Pc.zs l).length cv, .int .i64 0] 94)) (Pc.zs l) 0 :=
    ⟨Av, cv, Pc.zs l, 0, heap_alloc_new _ _, hlv, hmv, hav.below hbr (Nat.le_refl _), rfl, Nat.le_refl _⟩
  have HRES := Lib.hid hres; clear hres
  have HBR := Lib.hid hbr; clear hbr
  clear hav hlv hmv
  go_wp2_with fail
  refine (rnext_any _ _ _ _ _ hRN (by omega)).mono ?_
  rintro e wa ⟨rfl, hra, hga⟩
  go_wp2_with fail
  refine (rnext_any _ _ _ _ _ hra (by omega)).mono ?_
  rintro e wb ⟨rfl, hrb, hgb⟩
  go_wp2_with fail
  refine (rnext_any _ _ _ _ _ hrb (by omega)).mono ?_
  rintro e wq ⟨rfl, hrc, hgc⟩
  have hgg := grown_trans (grown_trans hga hgb) hgc
  have hbc : Below w1.heap.size w1 wq := HBR.out.trans ⟨hgg.os, hgg.tape, hgg.output, hgg.size, fun k hk => hgg.block k (by simp; omega) (by intro e; injection e; omega)⟩
  clear hga hgb hgc hgg hra hrb hRN
  generalize hl3 : (Pc.nx (Pc.nx (Pc.nx (Pc.zs l)).2).2).2 = l3 at hrc
  generalize hn0 : (Pc.nx (Pc.zs l)).1 = n0
  generalize hn1 : (Pc.nx (Pc.nx (Pc.zs l)).2).1 = n1
  generalize hn2 : (Pc.nx (Pc.nx (Pc.nx (Pc.zs l)).2).2).1 = n2
  have hbx : Below wq.heap.size wq (wq.alloc (.cells #[.int .i64 n0, .int .i64 n1, .int .i64 n2, .slice none 0 0, .slice none 0 0, .slice none 0 0] 32)) := (Below.refl _ _).alloc (Nat.le_refl _) _
  have hq0 : QInv w1.heap.size w.heap.size wq.heap.size w1 (wq.alloc (.cells #[.int .i64 n0, .int .i64 n1, .int .i64 n2, .slice none 0 0, .slice none 0 0, .slice none 0 0] 32)) l3 3 #[.int .i64 n0, .int .i64 n1, .int .i64 n2, .slice none 0 0, .slice none 0 0, .slice none 0 0] :=
    ⟨hrc.far (fun b hb => hbx.block b (by have := hrc.lt; omega)), heap_alloc_new _ _, hrc.lt, hbc.trans (hbx.mono (Nat.le_of_lt hrc.lt))⟩
  have HL3 := Lib.hid hl3; have HN0 := Lib.hid hn0; have HN1 := Lib.hid hn1; have HN2 := Lib.hid hn2
  clear hl3 hn0 hn1 hn2 hbx hbc hrc
  go_wp2_with fail
  refine (qnext hq0 (by omega)).mono ?_
  rintro e wd ⟨rfl, hq1, _⟩
  clear hq0
  go_upto_block 0 with fail
  generalize hl4 : (Pc.nx l3).2 = l4 at hq1
  have hK : ∀ j : Nat, ((j : Int) < (Pc.nx l3).1 ∧ (j : Int) < 5) ↔ j < (Pc.cnt 5 l3).1.toNat := fun j => cnt_lt 5 l3 j (by omega)
  have hK5 : (Pc.cnt 5 l3).1.toNat ≤ 5 := by simp only [Pc.cnt]; omega
  have hl4' : (Pc.cnt 5 l3).2 = l4 := hl4
  generalize hkk : (Pc.cnt 5 l3).1.toNat = K at hK hK5
  generalize (Pc.nx l3).1 = nn at hK ⊢
  have HK := Lib.hid hK; clear hK
  have HL4 := Lib.hid hl4'; have HKK := Lib.hid hkk
  clear hl4 hl4' hkk
  go_cut [9] (fun i wx => ∃ v, SliceIs Rep.int true wx (wq.heap.size + 1) wx.heap.size v (Pc.rsent l3).1 ∧ QInv w1.heap.size w.heap.size wq.heap.size w1 wx (Pc.rsent l3).2 100 #[.int .i64 n0, .int .i64 n1, .int .i64 n2, v, .slice none 0 0, .slice none 0 0])
  case first =>
    go_wp2_with fail
    go_loopg [9] K (fun k i wr => ∃ (j : Nat) (v : Value), i = .int .i64 (j : Int) ∧ j ≤ K ∧ k = K - j ∧ OwnInts 3 (wq.heap.size + 1) wr v (Pc.rep Pc.nx j l4).1 ∧ QInv w1.heap.size w.heap.size wq.heap.size w1 wr (Pc.rep Pc.nx j l4).2 (4 + j) #[.int .i64 n0, .int .i64 n1, .int .i64 n2, v, .slice none 0 0, .slice none 0 0])
    case atStart => exact ⟨0, _, rfl, by omega, by omega, World.ownsRow_nil _ _ _ _, hq1⟩
    case round =>
      clear hq1
      obtain ⟨j, v, rfl, hj, hk, hown, hq⟩ := hrel
      have HK2 := Lib.hid hk; clear hk
      by_cases hjk : j < K
      · have hj1 : (j : Int) < nn := ((HK.out j).2 hjk).1
        have hj2 : (j : Int) < 5 := ((HK.out j).2 hjk).2
        have hlen := Pc.rep_len Pc.nx j l4
        have hsn := Pc.rep_snoc Pc.nx j l4
        have HSN := Lib.hid hsn; clear hsn
        have HLEN := Lib.hid hlen; clear hlen
        obtain ⟨Aw, cw, rfl, _⟩ := hown.slice (lo := 0) (Nat.zero_le _) (Nat.le_refl _)
        have c3 := blk_cell hq.p 3
        simp only [List.getElem?_toArray, List.getElem?_cons_zero, List.getElem?_cons_succ] at c3
        have hlp := hq.lt
        have HOWN := Lib.hid hown; clear hown
        go_wp2_with fail
        go_region_law (first | (refine step_intsB [(Pc.nx (Pc.rep Pc.nx j l4).2).1] (by rfl) (.tmp 50) (.tmp 53) 22 (by rfl) (wq.heap.size + 1) 3 Try.infoInt Try.underlying22 _ _ (by rfl) HOX.out 1 _ (by rfl) (by simp) (by have := HLEN.out; simp; omega) hlx ?_; intro v2 w2 ho2 hb2; have hq2 := hqx.above hb2; obtain ⟨A2, k2, rfl, _⟩ := ho2.slice (lo := 0) (Nat.zero_le _) (Nat.le_refl _); simp only [List.length_append, List.length_cons, List.length_nil, Nat.zero_add] at ho2; have c3 := blk_cell hq2.p 3; have f3 : w2.frozen? ⟨wq.heap.size, 3, none⟩ = false := (by simp [World.frozen?, hq2.p]); simp only [List.getElem?_toArray, List.getElem?_cons_zero, List.getElem?_cons_succ] at c3) | (go_simp; go_at_call 55; refine (qnext hq.drew (by omega)).mono ?_; rintro e wx ⟨rfl, hqx, hgx⟩; have c3 := blk_cell hqx.p 3; simp only [List.getElem?_toArray, List.getElem?_cons_zero, List.getElem?_cons_succ] at c3; have hlx : wq.heap.size + 1 ≤ wx.heap.size := hqx.lt; have hlx' : wq.heap.size < wx.heap.size := hqx.lt; have hox : OwnInts 3 (wq.heap.size + 1) wx _ _ := own_move (w := wr.drew) (w1 := wx) HOWN.out (fun b h1 h2 => grown_keep hgx h2 (by have := hq.hp; omega)); have HOX := Lib.hid hox; clear hox))
        all_goals
          go_wp2_with fail
          go_roundg (K - (j + 1))
          case rel => exact ⟨j + 1, _, by simp, by omega, rfl, by rw [HSN.out]; exact own_setCell ho2 (by simp) _, by rw [HSN.out]; exact hq2.set3 _⟩
          case measure => have := HK2.out; omega
      · have hjK : j = K := by omega
        have hrs : Pc.rsent l3 = Pc.rep Pc.nx j l4 := by unfold Pc.rsent; rw [HKK.out, HL4.out, hjK]
        have hfin : ∃ v, SliceIs Rep.int true wr (wq.heap.size + 1) wr.heap.size v (Pc.rsent l3).1 ∧ QInv w1.heap.size w.heap.size wq.heap.size w1 wr (Pc.rsent l3).2 100 #[.int .i64 n0, .int .i64 n1, .int .i64 n2, v, .slice none 0 0, .slice none 0 0] :=
          ⟨v, by rw [hrs]; exact hown.slice (Nat.le_refl _) (Nat.le_refl _), by rw [hrs]; exact hq.more (by omega)⟩
        have HF := Lib.hid hfin
        have hno := fun h => hjk ((HK.out j).1 h)
        clear hfin hrs hown hq
        by_cases hjn : (j : Int) < nn
        · have h5 : ¬ (j : Int) < 5 := fun h => hno ⟨hjn, h⟩
          clear hno
          go_wp2_with fail
          go_meet
          exact HF.out
        · clear hno
          go_wp2_with fail
          go_meet
          exact HF.out
  case rest =>
    clear hq1 HK HKK
    obtain ⟨v1, hv1, hq⟩ := hcut
    obtain ⟨A1, k1, rfl, h1a, h1b, h1c⟩ := id hv1
    generalize hxs : (Pc.rsent l3).1 = xs1 at hv1 hq
    generalize hl5 : (Pc.rsent l3).2 = l5 at hq
    have HXS := Lib.hid hxs; have HL5 := Lib.hid hl5
    clear hxs hl5 h1a h1b h1c HL4
    obtain ⟨wp1, rfl⟩ : ∃ x : World, x = wc := ⟨_, rfl⟩
    go_wp2_with fail
    refine (qnext hq (by omega)).mono ?_
    rintro e we ⟨rfl, hqe, hge⟩
    have hgpl := hq.lt
    have hgg0 := hq.hp
    have kp := (Keeps.refl wq.heap.size wp1).grown hge hgg0
    clear hq hge
    go_upto_block 2 with fail
    generalize hl6 : (Pc.nx l5).2 = l6 at hqe
    have hK : ∀ j : Nat, ((j : Int) < (Pc.nx l5).1 ∧ (j : Int) < 5) ↔ j < (Pc.cnt 5 l5).1.toNat := fun j => cnt_lt 5 l5 j (by omega)
    have hK5 : (Pc.cnt 5 l5).1.toNat ≤ 5 := by simp only [Pc.cnt]; omega
    have hl6' : (Pc.cnt 5 l5).2 = l6 := hl6
    generalize hkk : (Pc.cnt 5 l5).1.toNat = K at hK hK5
    generalize (Pc.nx l5).1 = nn at hK ⊢
    have HK := Lib.hid hK; clear hK
    have HL6 := Lib.hid hl6'; have HKK := Lib.hid hkk
    clear hl6 hl6' hkk
    go_cut [10, 11, 12, 13] (fun _ _ _ _ wx => ∃ v, SliceIs Rep.msg.slice true wx (wq.heap.size + 1) wx.heap.size v (Pc.rins l5).1 ∧ QInv w1.heap.size w.heap.size wq.heap.size w1 wx (Pc.rins l5).2 20000 #[.int .i64 n0, .int .i64 n1, .int .i64 n2, .slice A1 xs1.length k1, v, .slice none 0 0] ∧ Keeps wq.heap.size wp1 wx)
    case first =>
      go_wp2_with fail
      go_loopg [10, 11, 12, 13] K (fun k i _ _ _ wr => ∃ (j : Nat) (v : Value), i = .int .i64 (j : Int) ∧ j ≤ K ∧ k = K - j ∧ Acc Rep.msg.slice 45 wp1.heap.size wr v (Pc.rep Pc.rin j l6).1 ∧ QInv w1.heap.size w.heap.size wq.heap.size w1 wr (Pc.rep Pc.rin j l6).2 (101 + 2000 * j) #[.int .i64 n0, .int .i64 n1, .int .i64 n2, .slice A1 xs1.length k1, v, .slice none 0 0] ∧ Keeps wq.heap.size wp1 wr)
      case atStart => exact ⟨0, _, rfl, by omega, by omega, Acc.nil _ _ _ _, hqe.more (by omega), kp⟩
      case round =>
        clear hqe kp
        obtain ⟨j, v, rfl, hj, hk, ha, hq, kp⟩ := hrel
        have HK2 := Lib.hid hk; clear hk
        have kpz := kp.1
        by_cases hjk : j < K
        · have hj1 : (j : Int) < nn := ((HK.out j).2 hjk).1
          have hj2 : (j : Int) < 5 := ((HK.out j).2 hjk).2
          have hlenj := Pc.rep_len Pc.rin j l6
          have HSN := Lib.hid (Pc.rep_snoc Pc.rin j l6)
          obtain ⟨Aw, cw, rfl, _⟩ := ha.slice
          rw [hlenj] at ha hq
          generalize hlj : (Pc.rep Pc.rin j l6).2 = lj at hq
          generalize hxj : (Pc.rep Pc.rin j l6).1 = xj at ha hlenj
          have HLJ := Lib.hid hlj; have HXJ := Lib.hid hxj
          clear hlj hxj
          have HA := Lib.hid ha; clear ha
          have hq0 := hq.below ((Below.refl _ _).alloc (Nat.le_refl _) (.cells #[] 47))
          have ha0 := Acc.empty Rep.msg 47 wr
          have hwrp := hq.lt
          obtain ⟨wr0, rfl⟩ : ∃ x : World, x = wr := ⟨_, rfl⟩
          go_wp2_with fail
          refine (qnext hq0 (by omega)).mono ?_
          rintro e wf ⟨rfl, hqf, hgf⟩
          have haf := ha0.move (w1 := wf) (fun b h1 h2 => grown_keep hgf h2 (by omega)) hgf.size
          have kf : Keeps wq.heap.size wr0 wf := ((Keeps.refl wq.heap.size wr0).above ((Below.refl wr0.heap.size wr0).alloc (Nat.le_refl _) _) (Nat.le_refl _)).grown hgf hgg0
          clear hq0 ha0 hgf
          generalize hl8 : (Pc.nx lj).2 = l8 at hqf
          have hK3 : ∀ j : Nat, ((j : Int) < (Pc.nx lj).1 ∧ (j : Int) < 500) ↔ j < (Pc.cnt 500 lj).1.toNat := fun j => cnt_lt 500 lj j (by omega)
          have hK500 : (Pc.cnt 500 lj).1.toNat ≤ 500 := by simp only [Pc.cnt]; omega
          have hrow : Pc.rin lj = Pc.rep Pc.rmsg (Pc.cnt 500 lj).1.toNat l8 := by rw [← hl8]; rfl
          generalize (Pc.cnt 500 lj).1.toNat = K3 at hK3 hK500 hrow
          generalize (Pc.nx lj).1 = nn3 at hK3 ⊢
          have HK3 := Lib.hid hK3; have HROW := Lib.hid hrow
          clear hK3 hrow hl8
          go_wp2_with fail
          go_loopg [11, 13] K3 (fun k v i wr2 => ∃ j2 : Nat, i = .int .i64 (j2 : Int) ∧ j2 ≤ K3 ∧ k = K3 - j2 ∧ Acc Rep.msg 47 wr0.heap.size wr2 v (Pc.rep Pc.rmsg j2 l8).1 ∧ QInv w1.heap.size w.heap.size wq.heap.size w1 wr2 (Pc.rep Pc.rmsg j2 l8).2 (101 + 2000 * j + 1 + 2 * j2) #[.int .i64 n0, .int .i64 n1, .int .i64 n2, .slice A1 xs1.length k1, (.slice Aw j cw), .slice none 0 0] ∧ Keeps wq.heap.size wr0 wr2)
          case atStart => exact ⟨0, rfl, by omega, by omega, haf, hqf, kf⟩
          case round =>
            clear haf hqf kf
            obtain ⟨j2, rfl, hj2', hk2, ha2, hq2, k2⟩ := hrel
            have HK4 := Lib.hid hk2; clear hk2
            have k2z := k2.1
            have hlen2 := Pc.rep_len Pc.rmsg j2 l8
            have HSN2 := Lib.hid (Pc.rep_snoc Pc.rmsg j2 l8)
            generalize hlj2 : (Pc.rep Pc.rmsg j2 l8).2 = lj2 at hq2
            generalize hxj2 : (Pc.rep Pc.rmsg j2 l8).1 = xj2 at ha2 hlen2
            have HLJ2 := Lib.hid hlj2; have HXJ2 := Lib.hid hxj2
            clear hlj2 hxj2
            by_cases hjk2 : j2 < K3
            · have hi1 : (j2 : Int) < nn3 := ((HK3.out j2).2 hjk2).1
              have hi2 : (j2 : Int) < 500 := ((HK3.out j2).2 hjk2).2
              have ha2x := ha2
              obtain ⟨A4, c4, hve, _⟩ := ha2x.slice
              subst hve
              clear ha2x
              have hle2 : xj2.length ≤ 500 := by omega
              clear hlen2
              go_wp2_with fail
              refine (qnext hq2 (by omega)).mono ?_
              rintro e wg ⟨rfl, hqg, hgg⟩
              go_wp2_with fail
              refine (qnext hqg (by omega)).mono ?_
              rintro e wh ⟨rfl, hqh, hgh⟩
              have hg3 := grown_trans hgg hgh
              have hwh := hg3.size
              go_wp2_with (at_builtin; refine wpList_accB (r := Rep.msg) (xs := xj2) (y := (Pc.rmsg lj2).1) rfl (.tmp 79) (.tmp 85) 45 rfl wr0.heap.size 47 Try.infoMsg Try.underlying45 rfl (by omega) _ rfl ha2 (fun b h1 h2 => grown_keep hg3 h2 (by omega)) hg3.size k2z 1 _ [.int .i64 (Pc.rmsg lj2).1.1, .int .i64 (Pc.rmsg lj2).1.2] rfl (by simp) rfl (by omega) ?_; intro v5 w5 hacc5 hgr5 hb5)
              go_roundg (K3 - (j2 + 1))
              case rel =>
                refine ⟨j2 + 1, by simp, by omega, rfl, ?_, ?_, (k2.grown hg3 hgg0).above hb5 (Nat.le_refl _)⟩
                · rw [HSN2.out, HXJ2.out, HLJ2.out]; exact hacc5
                · rw [HSN2.out, HLJ2.out]; exact ((hqh.above (hb5.mono (by omega))).more (by omega))
              case measure => have := HK4.out; omega
            · have hj3 : j2 = K3 := by omega
              have hno3 := fun h => hjk2 ((HK3.out j2).1 h)
              have hsl := ha2.slice
              obtain ⟨Ai, ci, hve, hsl1⟩ := id hsl
              subst hve
              rw [hlen2] at hsl
              have hyx : (Pc.rin lj).1 = xj2 := by rw [HROW.out, ← hj3, HXJ2.out]
              have hyl : (Pc.rin lj).2 = lj2 := by rw [HROW.out, ← hj3, HLJ2.out]
              have hok : Rep.msg.slice.is true wr (rng wr0.heap.size wr.heap.size) [.slice Ai xj2.length ci] xj2 := ⟨_, rfl, by rw [hlen2]; exact hsl⟩
              have hxl : xj.length ≤ 1000 := by omega
              have HOK := Lib.hid hok
              have HYX := Lib.hid hyx; have HYL := Lib.hid hyl
              have hkm : ∀ b, wp1.heap.size ≤ b → b < wr0.heap.size → wr.heap[b]? = wr0.heap[b]? := fun b h1 h2 => k2.2 b (by omega) h2
              have HKM := Lib.hid hkm
              have cx := blk_cell hq2.p 4
              simp only [List.getElem?_toArray, List.getElem?_cons_zero, List.getElem?_cons_succ] at cx
              have hgpw : wq.heap.size < wr.heap.size := hq2.lt
              have hle2 : xj2.length ≤ 500 := by omega
              clear hsl hsl1 hok hyx hyl hkm ha2 hjk2 hj3 hlen2 hlenj
              by_cases hi1 : (j2 : Int) < nn3
              all_goals
                first | (have h5 : ¬ (j2 : Int) < 500 := fun h => hno3 ⟨by assumption, h⟩) | skip
                clear hno3
                go_wp2_with (at_builtin; refine wpList_accB (r := Rep.msg.slice) (w0 := wr0) (xs := xj) (y := xj2) rfl (.tmp 88) (.tmp 90) 23 rfl wp1.heap.size 45 Try.infoMsgs Try.underlying23 rfl (by omega) _ (by rfl) HA.out HKM.out k2z kpz 1 _ [.slice Ai xj2.length ci] (by rfl) (by simp) HOK.out (by omega) ?_; intro v6 w6 hacc6 hgr6 hb6; have hq6 := hq2.above (hb6.mono (by omega)); obtain ⟨A6, c6, hve6, _⟩ := hacc6.slice; subst hve6; have cx6 := blk_cell hq6.p 4; have f6 : w6.frozen? ⟨wq.heap.size, 4, none⟩ = false := (by simp [World.frozen?, hq6.p]); simp only [List.getElem?_toArray, List.getElem?_cons_zero, List.getElem?_cons_succ] at cx6; simp only [List.length_append, List.length_cons, List.length_nil, Nat.zero_add] at hacc6)
                go_roundg (K - (j + 1))
                case rel =>
                  refine ⟨j + 1, .slice A6 (xj.length + 1) c6, by simp, by omega, rfl, ?_, ?_, ?_⟩
                  · rw [HSN.out, HXJ.out, HLJ.out, HYX.out]; exact hacc6.move (fun b h1 h2 => heap_setCell_other _ _ _ _ (by simp; omega)) (by simp [World.setCell])
                  · rw [HSN.out, HLJ.out, HYL.out]; exact (hq6.set4 _).more (by omega)
                  · exact ((kp.trans k2).above hb6 (Nat.le_refl _)).set' (Nat.le_refl _) _
                case measure => have := HK2.out; omega
        · have hjK : j = K := by omega
          have hrs : Pc.rins l5 = Pc.rep Pc.rin j l6 := by unfold Pc.rins; rw [HKK.out, HL6.out, hjK]
          have hfin : ∃ v, SliceIs Rep.msg.slice true wr (wq.heap.size + 1) wr.heap.size v (Pc.rins l5).1 ∧ QInv w1.heap.size w.heap.size wq.heap.size w1 wr (Pc.rins l5).2 20000 #[.int .i64 n0, .int .i64 n1, .int .i64 n2, .slice A1 xs1.length k1, v, .slice none 0 0] ∧ Keeps wq.heap.size wp1 wr :=
            ⟨v, by rw [hrs]; exact ha.slice.widen (by omega) (Nat.le_refl _), by rw [hrs]; exact hq.more (by omega), kp⟩
          have HF := Lib.hid hfin
          have hno := fun h => hjk ((HK.out j).1 h)
          clear hfin hrs ha hq
          by_cases hjn : (j : Int) < nn
          · have h5 : ¬ (j : Int) < 5 := fun h => hno ⟨hjn, h⟩
            clear hno
            go_wp2_with fail
            go_meet
            exact HF.out
          · clear hno
            go_wp2_with fail
            go_meet
            exact HF.out
    case rest =>
      clear hqe HK HKK

      obtain ⟨v2, hv2, hq, kp2⟩ := hcut
      obtain ⟨A2, k2, rfl, h1a, h1b, h1c⟩ := id hv2
      have hv1w := kp2.slice hv1 (Nat.lt_succ_self _) (Nat.le_refl _)
      generalize hxs : (Pc.rins l5).1 = xs2 at hv2 hq
      generalize hl9 : (Pc.rins l5).2 = l9 at hq
      have HXS2 := Lib.hid hxs; have HL9 := Lib.hid hl9
      clear hxs hl9 h1a h1b h1c HL6 hv1
      obtain ⟨wp2, rfl⟩ : ∃ x : World, x = wc := ⟨_, rfl⟩
      go_wp2_with fail
      refine (qnext hq (by omega)).mono ?_
      rintro e we ⟨rfl, hqe, hge⟩
      have hgpl := hq.lt
      have hgg0 := hq.hp
      have kp := (Keeps.refl wq.heap.size wp2).grown hge hgg0
      clear hq hge
      go_upto_block 6 with fail
      generalize hl6 : (Pc.nx l9).2 = l10 at hqe
      have hK : ∀ j : Nat, ((j : Int) < (Pc.nx l9).1 ∧ (j : Int) < 5) ↔ j < (Pc.cnt 5 l9).1.toNat := fun j => cnt_lt 5 l9 j (by omega)
      have hK5 : (Pc.cnt 5 l9).1.toNat ≤ 5 := by simp only [Pc.cnt]; omega
      have hl6' : (Pc.cnt 5 l9).2 = l10 := hl6
      generalize hkk : (Pc.cnt 5 l9).1.toNat = K at hK hK5
      generalize (Pc.nx l9).1 = nn at hK ⊢
      have HK := Lib.hid hK; clear hK
      have HL6 := Lib.hid hl6'; have HKK := Lib.hid hkk
      clear hl6 hl6' hkk
      go_cut [14, 15, 16, 17] (fun _ _ _ _ wx => ∃ v, SliceIs Rep.int.slice true wx (wq.heap.size + 1) wx.heap.size v (Pc.routs l9).1 ∧ QInv w1.heap.size w.heap.size wq.heap.size w1 wx (Pc.routs l9).2 40000 #[.int .i64 n0, .int .i64 n1, .int .i64 n2, .slice A1 xs1.length k1, .slice A2 xs2.length k2, v] ∧ Keeps wq.heap.size wp2 wx)
      case first =>
        go_wp2_with fail
        go_loopg [14, 15, 16, 17] K (fun k i _ _ _ wr => ∃ (j : Nat) (v : Value), i = .int .i64 (j : Int) ∧ j ≤ K ∧ k = K - j ∧ Acc Rep.int.slice 22 wp2.heap.size wr v (Pc.rep Pc.rout j l10).1 ∧ QInv w1.heap.size w.heap.size wq.heap.size w1 wr (Pc.rep Pc.rout j l10).2 (20001 + 2000 * j) #[.int .i64 n0, .int .i64 n1, .int .i64 n2, .slice A1 xs1.length k1, .slice A2 xs2.length k2, v] ∧ Keeps wq.heap.size wp2 wr)
        case atStart => exact ⟨0, _, rfl, by omega, by omega, Acc.nil _ _ _ _, hqe.more (by omega), kp⟩
        case round =>
          clear hqe kp
          obtain ⟨j, v, rfl, hj, hk, ha, hq, kp⟩ := hrel
          have HK2 := Lib.hid hk; clear hk
          have kpz := kp.1
          by_cases hjk : j < K
          · have hj1 : (j : Int) < nn := ((HK.out j).2 hjk).1
            have hj2 : (j : Int) < 5 := ((HK.out j).2 hjk).2
            have hlenj := Pc.rep_len Pc.rout j l10
            have HSN := Lib.hid (Pc.rep_snoc Pc.rout j l10)
            obtain ⟨Aw, cw, rfl, _⟩ := ha.slice
            rw [hlenj] at ha hq
            generalize hlj : (Pc.rep Pc.rout j l10).2 = lj at hq
            generalize hxj : (Pc.rep Pc.rout j l10).1 = xj at ha hlenj
            have HLJ := Lib.hid hlj; have HXJ := Lib.hid hxj
            clear hlj hxj
            have HA := Lib.hid ha; clear ha
            have hq0 := hq.below ((Below.refl _ _).alloc (Nat.le_refl _) (.cells #[] 3))
            have ha0 := Acc.empty Rep.int 3 wr
            have hwrp := hq.lt
            obtain ⟨wr0, rfl⟩ : ∃ x : World, x = wr := ⟨_, rfl⟩
            go_wp2_with fail
            refine (qnext hq0 (by omega)).mono ?_
            rintro e wf ⟨rfl, hqf, hgf⟩
            have haf := ha0.move (w1 := wf) (fun b h1 h2 => grown_keep hgf h2 (by omega)) hgf.size
            have kf : Keeps wq.heap.size wr0 wf := ((Keeps.refl wq.heap.size wr0).above ((Below.refl wr0.heap.size wr0).alloc (Nat.le_refl _) _) (Nat.le_refl _)).grown hgf hgg0
            clear hq0 ha0 hgf
            generalize hl8 : (Pc.nx lj).2 = l8 at hqf
            have hK3 : ∀ j : Nat, ((j : Int) < (Pc.nx lj).1 ∧ (j : Int) < 500) ↔ j < (Pc.cnt 500 lj).1.toNat := fun j => cnt_lt 500 lj j (by omega)
            have hK500 : (Pc.cnt 500 lj).1.toNat ≤ 500 := by simp only [Pc.cnt]; omega
            have hrow : Pc.rout lj = Pc.rep Pc.nx (Pc.cnt 500 lj).1.toNat l8 := by rw [← hl8]; rfl
            generalize (Pc.cnt 500 lj).1.toNat = K3 at hK3 hK500 hrow
            generalize (Pc.nx lj).1 = nn3 at hK3 ⊢
            have HK3 := Lib.hid hK3; have HROW := Lib.hid hrow
            clear hK3 hrow hl8
            go_wp2_with fail
            go_loopg [15, 17] K3 (fun k v i wr2 => ∃ j2 : Nat, i = .int .i64 (j2 : Int) ∧ j2 ≤ K3 ∧ k = K3 - j2 ∧ Acc Rep.int 3 wr0.heap.size wr2 v (Pc.rep Pc.nx j2 l8).1 ∧ QInv w1.heap.size w.heap.size wq.heap.size w1 wr2 (Pc.rep Pc.nx j2 l8).2 (20001 + 2000 * j + 1 + 2 * j2) #[.int .i64 n0, .int .i64 n1, .int .i64 n2, .slice A1 xs1.length k1, .slice A2 xs2.length k2, (.slice Aw j cw)] ∧ Keeps wq.heap.size wr0 wr2)
            case atStart => exact ⟨0, rfl, by omega, by omega, haf, hqf, kf⟩
            case round =>
              clear haf hqf kf
              obtain ⟨j2, rfl, hj2', hk2, ha2, hq2, k2⟩ := hrel
              have HK4 := Lib.hid hk2; clear hk2
              have k2z := k2.1
              have hlen2 := Pc.rep_len Pc.nx j2 l8
              have HSN2 := Lib.hid (Pc.rep_snoc Pc.nx j2 l8)
              generalize hlj2 : (Pc.rep Pc.nx j2 l8).2 = lj2 at hq2
              generalize hxj2 : (Pc.rep Pc.nx j2 l8).1 = xj2 at ha2 hlen2
              have HLJ2 := Lib.hid hlj2; have HXJ2 := Lib.hid hxj2
              clear hlj2 hxj2
              by_cases hjk2 : j2 < K3
              · have hi1 : (j2 : Int) < nn3 := ((HK3.out j2).2 hjk2).1
                have hi2 : (j2 : Int) < 500 := ((HK3.out j2).2 hjk2).2
                have ha2x := ha2
                obtain ⟨A4, c4, hve, _⟩ := ha2x.slice
                subst hve
                clear ha2x
                have hle2 : xj2.length ≤ 500 := by omega
                clear hlen2
                go_wp2_with fail
                refine (qnext hq2 (by omega)).mono ?_
                rintro e wh ⟨rfl, hqh, hgh⟩
                have hg3 := hgh
                have hwh := hg3.size
                go_wp2_with (at_builtin; refine wpList_accB (r := Rep.int) (xs := xj2) (y := (Pc.nx lj2).1) rfl (.tmp 116) (.tmp 119) 22 rfl wr0.heap.size 3 Try.infoInt Try.underlying22 rfl (by omega) _ rfl ha2 (fun b h1 h2 => grown_keep hg3 h2 (by omega)) hg3.size k2z 1 _ [.int .i64 (Pc.nx lj2).1] rfl (by simp) rfl (by omega) ?_; intro v5 w5 hacc5 hgr5 hb5)
                go_roundg (K3 - (j2 + 1))
                case rel =>
                  refine ⟨j2 + 1, by simp, by omega, rfl, ?_, ?_, (k2.grown hg3 hgg0).above hb5 (Nat.le_refl _)⟩
                  · rw [HSN2.out, HXJ2.out, HLJ2.out]; exact hacc5
                  · rw [HSN2.out, HLJ2.out]; exact ((hqh.above (hb5.mono (by omega))).more (by omega))
                case measure => have := HK4.out; omega
              · have hj3 : j2 = K3 := by omega
                have hno3 := fun h => hjk2 ((HK3.out j2).1 h)
                have hsl := ha2.slice
                obtain ⟨Ai, ci, hve, hsl1⟩ := id hsl
                subst hve
                rw [hlen2] at hsl
                have hyx : (Pc.rout lj).1 = xj2 := by rw [HROW.out, ← hj3, HXJ2.out]
                have hyl : (Pc.rout lj).2 = lj2 := by rw [HROW.out, ← hj3, HLJ2.out]
                have hok : Rep.int.slice.is true wr (rng wr0.heap.size wr.heap.size) [.slice Ai xj2.length ci] xj2 := ⟨_, rfl, by rw [hlen2]; exact hsl⟩
                have hxl : xj.length ≤ 1000 := by omega
                have HOK := Lib.hid hok
                have HYX := Lib.hid hyx; have HYL := Lib.hid hyl
                have hkm : ∀ b, wp2.heap.size ≤ b → b < wr0.heap.size → wr.heap[b]? = wr0.heap[b]? := fun b h1 h2 => k2.2 b (by omega) h2
                have HKM := Lib.hid hkm
                have cx := blk_cell hq2.p 5
                simp only [List.getElem?_toArray, List.getElem?_cons_zero, List.getElem?_cons_succ] at cx
                have hgpw : wq.heap.size < wr.heap.size := hq2.lt
                have hle2 : xj2.length ≤ 500 := by omega
                clear hsl hsl1 hok hyx hyl hkm ha2 hjk2 hj3 hlen2 hlenj
                by_cases hi1 : (j2 : Int) < nn3
                all_goals
                  first | (have h5 : ¬ (j2 : Int) < 500 := fun h => hno3 ⟨by assumption, h⟩) | skip
                  clear hno3
                  go_wp2_with (at_builtin; refine wpList_accB (r := Rep.int.slice) (w0 := wr0) (xs := xj) (y := xj2) rfl (.tmp 122) (.tmp 124) 24 rfl wp2.heap.size 22 Try.infoInts Try.underlying24 rfl (by omega) _ (by rfl) HA.out HKM.out k2z kpz 1 _ [.slice Ai xj2.length ci] (by rfl) (by simp) HOK.out (by omega) ?_; intro v6 w6 hacc6 hgr6 hb6; have hq6 := hq2.above (hb6.mono (by omega)); obtain ⟨A6, c6, hve6, _⟩ := hacc6.slice; subst hve6; have cx6 := blk_cell hq6.p 5; have f6 : w6.frozen? ⟨wq.heap.size, 5, none⟩ = false := (by simp [World.frozen?, hq6.p]); simp only [List.getElem?_toArray, List.getElem?_cons_zero, List.getElem?_cons_succ] at cx6; simp only [List.length_append, List.length_cons, List.length_nil, Nat.zero_add] at hacc6)
                  go_roundg (K - (j + 1))
                  case rel =>
                    refine ⟨j + 1, .slice A6 (xj.length + 1) c6, by simp, by omega, rfl, ?_, ?_, ?_⟩
                    · rw [HSN.out, HXJ.out, HLJ.out, HYX.out]; exact hacc6.move (fun b h1 h2 => heap_setCell_other _ _ _ _ (by simp; omega)) (by simp [World.setCell])
                    · rw [HSN.out, HLJ.out, HYL.out]; exact (hq6.set5 _).more (by omega)
                    · exact ((kp.trans k2).above hb6 (Nat.le_refl _)).set' (Nat.le_refl _) _
                  case measure => have := HK2.out; omega
          · have hjK : j = K := by omega
            have hrs : Pc.routs l9 = Pc.rep Pc.rout j l10 := by unfold Pc.routs; rw [HKK.out, HL6.out, hjK]
            have hfin : ∃ v, SliceIs Rep.int.slice true wr (wq.heap.size + 1) wr.heap.size v (Pc.routs l9).1 ∧ QInv w1.heap.size w.heap.size wq.heap.size w1 wr (Pc.routs l9).2 40000 #[.int .i64 n0, .int .i64 n1, .int .i64 n2, .slice A1 xs1.length k1, .slice A2 xs2.length k2, v] ∧ Keeps wq.heap.size wp2 wr :=
              ⟨v, by rw [hrs]; exact ha.slice.widen (by omega) (Nat.le_refl _), by rw [hrs]; exact hq.more (by omega), kp⟩
            have HF := Lib.hid hfin
            have hno := fun h => hjk ((HK.out j).1 h)
            clear hfin hrs ha hq
            by_cases hjn : (j : Int) < nn
            · have h5 : ¬ (j : Int) < 5 := fun h => hno ⟨hjn, h⟩
              clear hno
              go_wp2_with fail
              go_meet
              exact HF.out
            · clear hno
              go_wp2_with fail
              go_meet
              exact HF.out
      case rest =>
        clear hqe HK HKK

        obtain ⟨v3, hv3, hq, kp3⟩ := hcut
        obtain ⟨A3, k3, rfl, h1a, h1b, h1c⟩ := id hv3
        have hv2w := kp3.slice hv2 (Nat.lt_succ_self _) (Nat.le_refl _)
        have hv1z := kp3.slice hv1w (Nat.lt_succ_self _) (by have := kp2.1; omega)
        generalize hxs : (Pc.routs l9).1 = xs3 at hv3 hq
        have HXS3 := Lib.hid hxs
        clear hxs h1a h1b h1c hv1w hv2 kp
        clear hgpl
        obtain ⟨wz, rfl⟩ : ∃ x : World, x = wc := ⟨_, rfl⟩
        have hrd : Pc.rd (Pc.zs l) = ⟨n0, n1, n2, xs1, xs2, xs3⟩ := by
          rw [← HXS.out, ← HXS2.out, ← HXS3.out, ← HL9.out, ← HL5.out, ← HL3.out, ← HN0.out, ← HN1.out, ← HN2.out]; rfl
        have hz2 := kp2.1
        have hz3 := kp3.1
        have hPz : PieceIs true wz (wq.heap.size + 1) wz.heap.size (.agg #[.int .i64 n0, .int .i64 n1, .int .i64 n2, .slice A1 xs1.length k1, .slice A2 xs2.length k2, .slice A3 xs3.length k3]) ⟨n0, n1, n2, xs1, xs2, xs3⟩ :=
          ⟨_, _, _, rfl, hv1z.widen (Nat.le_refl _) (by omega), hv2w.widen (Nat.le_refl _) (by omega), hv3⟩
        have hbz : Below w.heap.size w wz := (((Below.refl _ _).alloc (Nat.le_refl _) _).trans (hb1.mono (by simp))).trans (hq.low.mono (by omega))
        have hE := fun w h => rencode_any (.agg #[.int .i64 n0, .int .i64 n1, .int .i64 n2, .slice A1 xs1.length k1, .slice A2 xs2.length k2, .slice A3 xs3.length k3]) ⟨n0, n1, n2, xs1, xs2, xs3⟩ w h
        obtain ⟨PP, hPP⟩ : ∃ PP, PP = Pc.Piece.mk n0 n1 n2 xs1 xs2 xs3 := ⟨_, rfl⟩
        rw [← hPP] at hE hPz hrd
        have hres9 := (hq.low.block _ hlt1).trans HRES.out
        have hPe := hPz.soft.widen (lo' := 0) (Nat.zero_le _) (Nat.le_refl _)
        have hp9 := hq.p
        have hltP := lt_of_block hp9
        have hltR := lt_of_block hres9
        have hgpg := hq.hp
        have HE := Lib.hid hE; clear hE
        have HPZ := Lib.hid hPz; clear hPz
        have HPE := Lib.hid hPe; clear hPe
        have HRD := Lib.hid hrd; clear hrd hPP
        have HBZ := Lib.hid hbz; clear hbz
        have HRES9 := Lib.hid hres9; clear hres9
        have HP9 := Lib.hid hp9
        obtain ⟨d0, d1, d2, d3, d4, d5⟩ := six_cells hp9
        clear hp9 hq hv1z hv2w hv3 kp2 kp3 HXS HXS2 HXS3 HL9 HL5 HL3 HN0 HN1 HN2 HL6 HRES HBR
        go_wp2_with fail
        clear d0 d1 d2 d3 d4 d5
        refine (HE.out _ HPE.out).mono ?_
        rintro e wj ⟨rfl, hbj⟩
        have hPj := HPZ.out.below hbj (Nat.le_refl _)
        have hbw := HBZ.out.trans (hbj.mono (by omega))
        have hresj := (hbj.block _ hltR).trans HRES9.out
        have hpj := (hbj.block _ hltP).trans HP9.out
        have HPB := Lib.hid hpj
        have hszj := hbj.size
        clear hpj HP9
        have HPJ := Lib.hid hPj; clear hPj
        have HBW := Lib.hid hbw; clear hbw
        have HRJ := Lib.hid hresj
        obtain ⟨c0, c1, c2, c3, c4, c5⟩ := six_cells hresj
        obtain ⟨f0, f1, f2, f3, f4, f5⟩ := six_free hresj
        clear hresj hbj HPZ HPE HE HBZ HRES9
        unfold Pc.enc Pc.err
        cases hr : Pc.right PP
        · have hno : Pc.isP s.data.toList l = false := by unfold Pc.isP; rw [HRD.out, hr]; rfl
          have HNO := Lib.hid (Pc.dec_no HL.out hno); clear hno hr
          go_wp2_with fail
          have r := six_set HRJ.out (.int .i64 0) (.int .i64 0) (.int .i64 0) (.slice none 0 0) (.slice none 0 0) (.slice none 0 0)
          obtain ⟨g0, g1, g2, g3, g4, g5⟩ := six_cells r
          refine bodyPost_ret (v := .tuple #[.agg #[.int .i64 0, .int .i64 0, .int .i64 0, .slice none 0 0, .slice none 0 0, .slice none 0 0], .int .i64 4]) (by simp [results, Try.results20, go_sem, g0, g1, g2, g3, g4, g5]) rfl ⟨⟨_, by rw [HNO.out.2], ?_⟩, six_below HBW.out (Nat.le_refl _) _ _ _ _ _ _⟩
          rw [HNO.out.1]
          exact ⟨_, _, _, rfl, SliceIs.none_, SliceIs.none_, SliceIs.none_⟩
        · rw [if_pos rfl, if_pos rfl]
          have hD : (ByteArray.mk (Go.Proofs.Ytdfgnmdofjhnkaa.W.puts (Pc.nums PP)).toArray).data.toList = Go.Proofs.Ytdfgnmdofjhnkaa.W.puts (Pc.nums PP) := rfl
          generalize hS : ByteArray.mk (Go.Proofs.Ytdfgnmdofjhnkaa.W.puts (Pc.nums PP)).toArray = S at hD
          by_cases hSs : S = s
          · subst hSs
            have hyes : Pc.isP S.data.toList l = true := by unfold Pc.isP; rw [HRD.out, hr, hD]; simp
            have HYES := Lib.hid (Pc.dec_yes HL.out hyes)
            have sb1 : (S.toList == S.toList) = true := by simp
            have sb2 : (S.toList != S.toList) = false := by simp
            obtain ⟨d0, d1, d2, d3, d4, d5⟩ := six_cells HPB.out
            clear hD hyes hS hr
            go_wp2_with fail
            have r := six_set HRJ.out (.int .i64 n0) (.int .i64 n1) (.int .i64 n2) (.slice A1 xs1.length k1) (.slice A2 xs2.length k2) (.slice A3 xs3.length k3)
            obtain ⟨g0, g1, g2, g3, g4, g5⟩ := six_cells r
            refine bodyPost_ret (v := .tuple #[.agg #[.int .i64 n0, .int .i64 n1, .int .i64 n2, .slice A1 xs1.length k1, .slice A2 xs2.length k2, .slice A3 xs3.length k3], .int .i64 0]) (by simp [results, Try.results20, go_sem, g0, g1, g2, g3, g4, g5]) rfl ⟨⟨_, by rw [HYES.out.2], ?_⟩, six_below HBW.out (Nat.le_refl _) _ _ _ _ _ _⟩
            rw [HYES.out.1, HRD.out]
            have hk := six_keeps (w := wj) (w0 := wj) (gp := wq.heap.size) (R := w.heap.size) ⟨Nat.le_refl _, fun _ _ _ => rfl⟩ (by omega) (.int .i64 n0) (.int .i64 n1) (.int .i64 n2) (.slice A1 xs1.length k1) (.slice A2 xs2.length k2) (.slice A3 xs3.length k3)
            exact (HPJ.out.keep fun b h1 h2 => hk.2 b (by omega) (by omega)).widen (by omega) (Nat.le_trans hszj hk.1)
          · have hno : Pc.isP s.data.toList l = false := by
              unfold Pc.isP
              rw [HRD.out, hr, Bool.true_and]
              apply decide_eq_false
              intro he
              apply hSs
              rw [← hS, he]
            have HNO := Lib.hid (Pc.dec_no HL.out hno)
            have sb1 : (S.toList == s.toList) = false := by
              rw [beq_eq_false_iff_ne]
              intro he
              rw [ByteArray.toList_eq, ByteArray.toList_eq] at he
              exact hSs (ByteArray.ext (Array.toList_inj.1 he))
            have sb2 : (S.toList != s.toList) = true := by simp [bne, sb1]
            clear hD hS hr hno hSs
            go_wp2_with fail
            have r := six_set HRJ.out (.int .i64 0) (.int .i64 0) (.int .i64 0) (.slice none 0 0) (.slice none 0 0) (.slice none 0 0)
            obtain ⟨g0, g1, g2, g3, g4, g5⟩ := six_cells r
            refine bodyPost_ret (v := .tuple #[.agg #[.int .i64 0, .int .i64 0, .int .i64 0, .slice none 0 0, .slice none 0 0, .slice none 0 0], .int .i64 4]) (by simp [results, Try.results20, go_sem, g0, g1, g2, g3, g4, g5]) rfl ⟨⟨_, by rw [HNO.out.2], ?_⟩, six_below HBW.out (Nat.le_refl _) _ _ _ _ _ _⟩
            rw [HNO.out.1]
            exact ⟨_, _, _, rfl, SliceIs.none_, SliceIs.none_, SliceIs.none_⟩

set_option maxRecDepth 100000 in
set_option maxHeartbeats 4000000 in
theorem rdecode_bad (s : ByteArray) (k : Nat) (w : World) (hs : s.size ≤ 1000000) (hl : W.all s.data.toList = .bad k) : Calls Try.prog 20 #[.string s] w
    fun x w' => (∃ v, x = .returned (.tuple #[v, .int .i64 (Pc.decE s.data.toList)]) ∧ PieceIs true w' w.heap.size w'.heap.size v (Pc.dec s.data.toList)) ∧ Below w.heap.size w w' := by
  have hA := fun w => rall_any s w (by omega)
  rw [hl] at hA
  have HA := Lib.hid hA; clear hA
  have hk := Pc.all_err _ _ _ (Nat.le_refl _) hl
  have HD := Lib.hid (Pc.dec_bad hl); clear hl
  have hk1 : ((k : Int) == 0) = false := beq_eq_false_iff_ne.2 (by omega)
  have hk2 : ((k : Int) != 0) = true := by simp [bne, hk1]
  go_enter Try.func20, Try.ntmps20
  go_wp2_with fail
  refine (HA.out _).mono ?_
  rintro e w1 ⟨rfl, hb1⟩
  have hres : w1.heap[w.heap.size]? = some (.cells #[.int .i64 0, .int .i64 0, .int .i64 0, .slice none 0 0, .slice none 0 0, .slice none 0 0] 32 (0, 0)) := (hb1.block _ (by simp)).trans (heap_alloc_new _ _)
  have hbw : Below w.heap.size w w1 := ((Below.refl _ _).alloc (Nat.le_refl _) _).trans (hb1.mono (by simp))
  have HRJ := Lib.hid hres
  obtain ⟨c0, c1, c2, c3, c4, c5⟩ := six_cells hres
  obtain ⟨f0, f1, f2, f3, f4, f5⟩ := six_free hres
  clear hres
  go_wp2_with fail
  have r := six_set HRJ.out (.int .i64 0) (.int .i64 0) (.int .i64 0) (.slice none 0 0) (.slice none 0 0) (.slice none 0 0)
  obtain ⟨g0, g1, g2, g3, g4, g5⟩ := six_cells r
  refine bodyPost_ret (v := .tuple #[.agg #[.int .i64 0, .int .i64 0, .int .i64 0, .slice none 0 0, .slice none 0 0, .slice none 0 0], .int .i64 4]) (by simp [results, Try.results20, go_sem, g0, g1, g2, g3, g4, g5]) rfl ⟨⟨_, by rw [HD.out.2], ?_⟩, six_below hbw (Nat.le_refl _) _ _ _ _ _ _⟩
  rw [HD.out.1]
  exact ⟨_, _, _, rfl, SliceIs.none_, SliceIs.none_, SliceIs.none_⟩

theorem rdecode_any (s : ByteArray) (w : World) (hs : s.size ≤ 1000000) : Calls Try.prog 20 #[.string s] w
    fun x w' => (∃ v, x = .returned (.tuple #[v, .int .i64 (Pc.decE s.data.toList)]) ∧ PieceIs true w' w.heap.size w'.heap.size v (Pc.dec s.data.toList)) ∧ Below w.heap.size w w' := by
  cases hl : W.all s.data.toList with
  | bad k => exact rdecode_bad s k w hs hl
  | ok l => exact rdecode_ok s l w hs hl
end Go.Proofs.Ytdfgnmdofjhnkaa

/- cameolaw06.Ref, Refs -/
namespace Go.Proofs.Ytdfgnmdofjhnkaa
open Go.RowKit

set_option maxRecDepth 100000 in
set_option maxHeartbeats 2000000 in
theorem ref_any (v : Value) (p : Pc.Piece) {fr : Bool} {lo hi : Nat} (w : World) (h : PieceIs fr w lo hi v p) : Calls Try.prog 18 #[v] w
    fun x w' => x = .returned v ∧ Below w.heap.size w w' := by
  obtain ⟨n, s, t, xs, ms, os⟩ := p
  obtain ⟨a, b, c, rfl, ⟨A1, c1, rfl, _⟩, ⟨A2, c2, rfl, _⟩, ⟨A3, c3, rfl, _⟩⟩ := h
  go_enter Try.func18, Try.ntmps18
  go_wp2_with fail
  refine bodyPost_ret (v := .agg #[.int .i64 n, .int .i64 s, .int .i64 t, .slice A1 xs.length c1, .slice A2 ms.length c2, .slice A3 os.length c3]) (by simp [results, Try.results18, go_sem]) rfl ⟨rfl, below_2 _ _ _⟩
end Go.Proofs.Ytdfgnmdofjhnkaa
