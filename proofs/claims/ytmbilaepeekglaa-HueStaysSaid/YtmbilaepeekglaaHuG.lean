/- host.Piece: what a host tells. -/
import Derived.Test.YtmbilaepeekglaaHuF
namespace Go.Proofs.Ytmbilaepeekglaa
open Go.RowKit Go.Maps

/-- While the piece's Sent is made: block p is the piece. -/
structure SentInv (h : Hu.Host) (A B : Option Addr) (k l p : Nat) (W w : World) (j : Nat) (v : Value) : Prop where
  box : Box w p #[.int .i64 h.node, .int .i64 h.state, .int .i64 h.steps, v, .slice A h.inn.length k, .slice B h.out.length l] 30
  acc : Acc Rep.int 3 (p + 1) w v ((h.out.take j).map fun l => (l.length : Int))
  low : Below p W w
theorem Below.ofp {B : Nat} {w w' : World} (h : Below B w w') {B' : Nat} (hB : B' ≤ B) : Below B' w w' := h.mono hB

set_option maxRecDepth 100000 in
set_option maxHeartbeats 4000000 in
theorem hostPiece_any (v : Value) (h : Hu.Host) (w : World) (hh : HostIs false w 0 w.heap.size v h) (hs : h.sized) : Calls Try.prog 23 #[v, .bool true] w
    fun y w' => (∃ v', y = .returned v' ∧ PieceIs true w' w.heap.size w'.heap.size v' h.told) ∧ Below w.heap.size w w' := by
  obtain ⟨n, s, t, inn, out⟩ := h
  have hps := Hu.Host.bare_sized hs
  simp only [Hu.Host.bare] at hps
  obtain ⟨a, b, rfl, ha, hb⟩ := hh
  dsimp only at ha hb ⊢
  obtain ⟨A1, c1, rfl, l1, m1, _⟩ := id ha
  obtain ⟨A2, c2, rfl, l2, m2, _⟩ := id hb
  obtain ⟨W0, hW⟩ : ∃ W0, W0 = (w.alloc (.cells #[.int .i64 n, .int .i64 s, .int .i64 t, .slice A1 inn.length c1, .slice A2 out.length c2] 28)).alloc (.cells #[.int .i64 0, .int .i64 0, .int .i64 0, .slice none 0 0, .slice none 0 0, .slice none 0 0] 30) := ⟨_, rfl⟩
  have hb0 : Below w.heap.size w W0 := hW ▸ below_2 _ _ _
  have hx : Box W0 w.heap.size #[.int .i64 n, .int .i64 s, .int .i64 t, .slice A1 inn.length c1, .slice A2 out.length c2] 28 := hW ▸ (Box.new _ _ _).alloc _
  have hr : Box W0 (w.heap.size + 1) #[.int .i64 0, .int .i64 0, .int .i64 0, .slice none 0 0, .slice none 0 0, .slice none 0 0] 30 := by
    have := Box.new (w.alloc (.cells #[.int .i64 n, .int .i64 s, .int .i64 t, .slice A1 inn.length c1, .slice A2 out.length c2] 28)) #[.int .i64 0, .int .i64 0, .int .i64 0, .slice none 0 0, .slice none 0 0, .slice none 0 0] 30
    rw [hW]; simpa using this
  have hsz : W0.heap.size = w.heap.size + 2 := by rw [hW]; simp
  have HI := Lib.hid ((ha.below hb0 (Nat.le_refl _)).widen (Nat.le_refl _) hb0.size)
  have HO := Lib.hid ((hb.below hb0 (Nat.le_refl _)).widen (Nat.le_refl _) hb0.size)
  have HW := Lib.hid hW; clear hW ha hb
  have HPS := Lib.hid hps; clear hps hs
  go_enter Try.func23, Try.ntmps23
  go_wp2_with fail
  rw [← HW.out]
  refine (told_any n s t _ _ _ _ _ _ _ _ rfl rfl W0).mono ?_
  rintro e w1 ⟨rfl, hb1⟩
  go_wp2_with fail
  refine (Own_nil n s t _ _ inn out w1 ((HI.out.below hb1 (Nat.le_refl _)).widen (Nat.le_refl _) hb1.size) ((HO.out.below hb1 (Nat.le_refl _)).widen (Nat.le_refl _) hb1.size) HPS.out).mono ?_
  rintro e w2 ⟨⟨A, B, k, l, rfl, hI, hO⟩, hb2⟩
  replace hx := (hx.next hb1).next hb2
  replace hr := (hr.next hb1).next hb2
  have hz1 := hb1.size
  have hz2 := hb2.size
  have hO2 := (HO.out.below hb1 (Nat.le_refl _)).below hb2 hz1
  obtain ⟨W, hW⟩ : ∃ W, W = w2.alloc (.cells #[.int .i64 n, .int .i64 s, .int .i64 t, .slice none 0 0, .slice A inn.length k, .slice B out.length l] 30) := ⟨_, rfl⟩
  have hbW : Below w2.heap.size w2 W := hW ▸ (Below.refl _ _).alloc (Nat.le_refl _) _
  have hp : Box W w2.heap.size #[.int .i64 n, .int .i64 s, .int .i64 t, .slice none 0 0, .slice A inn.length k, .slice B out.length l] 30 := hW ▸ Box.new _ _ _
  obtain ⟨k0, k1, k2, k3, k4⟩ := five_cells ((hx.next hbW))
  clear k0 k1 k2 k3
  rw [hW] at k4
  go_wp2_with fail
  rw [← hW]
  go_loopg [22] out.length (fun q i wr => ∃ (j : Nat) (u : Value), i = .int .i64 (j : Int) ∧ j ≤ out.length ∧ q = out.length - j ∧ SentInv ⟨n, s, t, inn, out⟩ A B k l w2.heap.size W wr j u)
  case atStart => exact ⟨0, _, rfl, by omega, by omega, hp, by simpa using Acc.nil _ _ _ _, Below.refl _ _⟩
  case round =>
    obtain ⟨j, u, rfl, hj, hq, hp, hacc, hbp⟩ := hrel
    dsimp only at hp hacc
    have HQ := Lib.hid hq; clear hq
    by_cases hlt : j < out.length
    · obtain ⟨x, hx2⟩ := Pc.get_at hlt
      have hO3 := (hO2.below hbW (by omega)).below hbp (by omega)
      obtain ⟨Ao, co, he, _, _, hAo⟩ := hO3
      injection he with he1 he2 he3
      subst he1 he3
      obtain ⟨g, o, vx, rfl, _, hg, c0, ⟨Ax, cx, rfl, _, mx, _⟩⟩ := hAo.row hx2
      have htk := Pc.take_next hx2
      have hmap : (out.take (j + 1)).map (fun l => (l.length : Int)) = (out.take j).map (fun l => (l.length : Int)) ++ [(x.length : Int)] := by rw [htk]; simp
      have hlen : ((out.take j).map fun l => (l.length : Int)).length = j := by simp; omega
      obtain ⟨Au, cu, hu, _, mu, _⟩ := id hacc.slice
      subst hu
      rw [hlen] at hp hacc
      obtain ⟨xj, hxj⟩ : ∃ xj, xj = (out.take j).map fun l => (l.length : Int) := ⟨_, rfl⟩
      rw [← hxj] at hacc hmap hlen
      have HM := Lib.hid hmap; clear hmap htk hx2 hxj
      obtain ⟨_, _, _, kp, _, _⟩ := six_cells hp
      have hl6 : ((out.take (j + 1)).map fun l => (l.length : Int)).length = j + 1 := by simp; omega
      have hpl := hp.lt
      have hol : out.length ≤ 1000000 := HPS.out.2.2.1
      have hml : xj.length ≤ 1000000 := by omega
      have HP := Lib.hid hp; clear hp
      have HAC := Lib.hid hacc; clear hacc
      clear hAo k4
      unfold maxLen at mx mu m2
      go_wp2_with (at_builtin; refine wpList_accB (r := Rep.int) (w0 := wr) (y := (x.length : Int)) rfl (.tmp 27) (.tmp 30) 23 rfl (w2.heap.size + 1) 3 Try.infoInt Try.underlying23 rfl (by omega) (.slice Au j cu) (by rfl) HAC.out (fun b h1 h2 => rfl) (Nat.le_refl _) (by omega) 1 _ [.int .i64 (x.length : Int)] rfl rfl rfl hml ?_; intro v6 w6 hacc6 hg6 hb6; have hp6 := HP.out.below hb6 (Nat.lt_succ_self _); obtain ⟨_, _, _, kp, _, _⟩ := six_cells hp6; obtain ⟨_, _, _, fp, _, _⟩ := six_free hp6; rw [← HM.out] at hacc6; have HP6 := Lib.hid hp6; clear hp6; obtain ⟨A6, c6, hv6, _⟩ := id hacc6.slice; subst hv6; rw [hl6] at hacc6 ⊢; have HAC6 := Lib.hid hacc6; clear hacc6)
      go_roundg (out.length - (j + 1))
      case rel => exact ⟨j + 1, _, by simp, by omega, rfl, blk_set HP6.out 3 _, HAC6.out.move (fun b h1 h2 => heap_setCell_other w6 ⟨w2.heap.size, 3, none⟩ b _ (by show b ≠ w2.heap.size; omega)) (by simp [World.setCell]), (hbp.trans (hb6.mono (by omega))).setCell (by simp) _⟩
      case measure => have := HQ.out; omega
    · rw [List.take_of_length_le (by omega)] at hacc
      have hsl := hacc.slice
      obtain ⟨Au, cu, hu, _, mu, _⟩ := id hsl
      subst hu
      rw [List.length_map] at hsl hp
      obtain ⟨k0, k1, k2, k3, k4', k5⟩ := six_cells hp
      have hrr := (hr.next hbW).below hbp hr.lt
      obtain ⟨f0, f1, f2, f3, f4, f5⟩ := six_free hrr
      obtain ⟨r0, r1, r2, r3, r4, r5⟩ := six_cells hrr
      have HR := Lib.hid hrr; clear hrr
      have HSL := Lib.hid hsl; clear hsl hacc hp k4
      have hI3 := (hI.below hbW (Nat.le_refl _)).below hbp (Nat.le_refl _)
      have hO3 := (hO.below hbW (Nat.le_refl _)).below hbp (Nat.le_refl _)
      have HI3 := Lib.hid hI3; have HO3 := Lib.hid hO3; clear hI3 hO3 hI hO hO2
      go_wp2_with fail
      have r := six_set HR.out (.int .i64 n) (.int .i64 s) (.int .i64 t) (.slice Au out.length cu) (.slice A inn.length k) (.slice B out.length l)
      obtain ⟨g0, g1, g2, g3, g4, g5⟩ := six_cells r
      have hsz2 : ((((((wr.setCell ⟨w.heap.size + 1, 0, none⟩ (.int .i64 n)).setCell ⟨w.heap.size + 1, 1, none⟩ (.int .i64 s)).setCell ⟨w.heap.size + 1, 2, none⟩ (.int .i64 t)).setCell ⟨w.heap.size + 1, 3, none⟩ (.slice Au out.length cu)).setCell ⟨w.heap.size + 1, 4, none⟩ (.slice A inn.length k)).setCell ⟨w.heap.size + 1, 5, none⟩ (.slice B out.length l)).heap.size = wr.heap.size := six_size (w := wr) (b := w.heap.size + 1)
      have hfar := fun (q : Nat) (hq : q ≠ w.heap.size + 1) => six_far (w := wr) (b := w.heap.size + 1) (a0 := .int .i64 n) (a1 := .int .i64 s) (a2 := .int .i64 t) (a3 := .slice Au out.length cu) (a4 := .slice A inn.length k) (a5 := .slice B out.length l) hq
      have hzW := hbW.size
      have hzr := hbp.size
      refine bodyPost_ret (v := .agg #[.int .i64 n, .int .i64 s, .int .i64 t, .slice Au out.length cu, .slice A inn.length k, .slice B out.length l]) (by simp [results, Try.results23, go_sem, g0, g1, g2, g3, g4, g5]) rfl ⟨⟨_, rfl, _, _, _, rfl, ?_, ?_, ?_⟩, ?_⟩
      · exact (HSL.out.keep fun q h1 h2 => hfar q (by omega)).widen (by omega) (Nat.le_of_eq hsz2.symm)
      · exact (HI3.out.keep fun q h1 h2 => hfar q (by omega)).widen (by omega) (by rw [hsz2]; omega)
      · exact (HO3.out.keep fun q h1 h2 => hfar q (by omega)).widen (by omega) (by rw [hsz2]; omega)
      · exact six_below ((((hb0.trans (hb1.mono hb0.size)).trans (hb2.mono (by omega))).trans (hbW.mono (by omega))).trans (hbp.mono (by omega))) (by omega) _ _ _ _ _ _
end Go.Proofs.Ytmbilaepeekglaa
