/- host.Piece, hue.Turn, hue.Done: what a host tells. -/
import Derived.Test.YtmbilaepeekglaaHuE
namespace Go.Proofs.Ytmbilaepeekglaa
open Go.RowKit Go.Maps

namespace Hu
structure Host where
  node : Int
  state : Int
  steps : Int
  inn : List (List (Int × Int))
  out : List (List Int)
def Host.bare (h : Host) : Pc.Piece := ⟨h.node, h.state, h.steps, [], h.inn, h.out⟩
def Host.told (h : Host) : Pc.Piece := ⟨h.node, h.state, h.steps, h.out.map fun l => (l.length : Int), h.inn, h.out⟩
def Host.sized (h : Host) : Prop := h.inn.length ≤ 1000000 ∧ h.out.length ≤ 1000000 ∧ (∀ x ∈ h.inn, x.length ≤ 1000000) ∧ (∀ x ∈ h.out, x.length ≤ 1000000)
theorem Host.bare_sized {h : Host} (hs : h.sized) : Pc.sized h.bare := ⟨by simp [Host.bare], hs.1, hs.2.1, hs.2.2.1, hs.2.2.2⟩
end Hu

/-- A host by value. -/
def HostIs (fr : Bool) (w : World) (lo hi : Nat) (v : Value) (h : Hu.Host) : Prop :=
  ∃ a b, v = .agg #[.int .i64 h.node, .int .i64 h.state, .int .i64 h.steps, a, b] ∧ SliceIs Rep.msg.slice fr w lo hi a h.inn ∧ SliceIs Rep.int.slice fr w lo hi b h.out
theorem HostIs.keep {fr : Bool} {w w' : World} {lo hi : Nat} {v : Value} {h : Hu.Host} (hh : HostIs fr w lo hi v h) (hk : ∀ b, lo ≤ b → b < hi → w'.heap[b]? = w.heap[b]?) : HostIs fr w' lo hi v h := by
  obtain ⟨a, b, rfl, h1, h2⟩ := hh; exact ⟨a, b, rfl, h1.keep hk, h2.keep hk⟩
theorem HostIs.widen {fr : Bool} {w : World} {lo hi lo' hi' : Nat} {v : Value} {h : Hu.Host} (hh : HostIs fr w lo hi v h) (h1 : lo' ≤ lo) (h2 : hi ≤ hi') : HostIs fr w lo' hi' v h := by
  obtain ⟨a, b, rfl, h3, h4⟩ := hh; exact ⟨a, b, rfl, h3.widen h1 h2, h4.widen h1 h2⟩
theorem HostIs.soft {fr : Bool} {w : World} {lo hi : Nat} {v : Value} {h : Hu.Host} (hh : HostIs fr w lo hi v h) : HostIs false w lo hi v h := by
  obtain ⟨a, b, rfl, h3, h4⟩ := hh; exact ⟨a, b, rfl, h3.soft, h4.soft⟩
theorem HostIs.next {fr : Bool} {w w' : World} {lo : Nat} {v : Value} {h : Hu.Host} (hh : HostIs fr w lo w.heap.size v h) (hb : Below w.heap.size w w') : HostIs fr w' lo w'.heap.size v h := (hh.keep fun b _ h2 => hb.block b h2).widen (Nat.le_refl _) hb.size

section
variable {w : World} {R : Nat} {T : TypeId} {a b c d e : Value}
theorem five_cells (h : Box w R #[a, b, c, d, e] T) : w.cell? ⟨R, 0, none⟩ = some a ∧ w.cell? ⟨R, 1, none⟩ = some b ∧ w.cell? ⟨R, 2, none⟩ = some c ∧ w.cell? ⟨R, 3, none⟩ = some d ∧ w.cell? ⟨R, 4, none⟩ = some e :=
  ⟨blk_cell h 0, blk_cell h 1, blk_cell h 2, blk_cell h 3, blk_cell h 4⟩
end

set_option maxRecDepth 100000 in
set_option maxHeartbeats 2000000 in
theorem told_any (n s t : Int) (a b : Value) (A B : Option Addr) (k l k' l' : Nat) (ha : a = .slice A k l) (hb : b = .slice B k' l') (w : World) : Calls Try.prog 35 #[.agg #[.int .i64 n, .int .i64 s, .int .i64 t, a, b]] w
    fun x w' => x = .returned (.agg #[.int .i64 n, .int .i64 s, .int .i64 t, .slice none 0 0, a, b]) ∧ Below w.heap.size w w' := by
  subst ha hb
  go_enter Try.func35, Try.ntmps35
  go_wp2_with fail
  refine bodyPost_ret (v := .agg #[.int .i64 n, .int .i64 s, .int .i64 t, .slice none 0 0, .slice A k l, .slice B k' l']) (by simp [results, Try.results35, go_sem]) rfl ⟨rfl, below_2 _ _ _⟩

set_option maxRecDepth 100000 in
theorem clone_nil (w : World) : Calls Try.prog 40 #[.slice none 0 0] w fun x w' => x = .returned (.slice none 0 0) ∧ Below w.heap.size w w' := by
  have q : ∀ (w : World) (a : Option Addr) (n c n' c' : Nat), (binOp .eql 23 (.slice a n c) (.slice none n' c')).run Try.prog w = .ok (.bool a.isNone) w := fun w a n c n' c' => Lib.run_eql_slice_nil w _ _ a n c n' c' Try.underlying23
  go_enter Try.func40, Try.ntmps40
  go_wp2_with fail
  go_ret
  exact ⟨rfl, Below.refl _ _⟩

set_option maxRecDepth 100000 in
set_option maxHeartbeats 4000000 in
theorem Own_nil (n s t : Int) (b c : Value) (ms : List (List (Int × Int))) (os : List (List Int)) (w : World) (h2 : SliceIs Rep.msg.slice false w 0 w.heap.size b ms) (h3 : SliceIs Rep.int.slice false w 0 w.heap.size c os) (hp : Pc.sized ⟨n, s, t, [], ms, os⟩) : Calls Try.prog 34 #[.agg #[.int .i64 n, .int .i64 s, .int .i64 t, .slice none 0 0, b, c]] w
    fun y w' => (∃ A B k l, y = .returned (.agg #[.int .i64 n, .int .i64 s, .int .i64 t, .slice none 0 0, .slice A ms.length k, .slice B os.length l]) ∧ SliceIs Rep.msg.slice true w' w.heap.size w'.heap.size (.slice A ms.length k) ms ∧ SliceIs Rep.int.slice true w' w.heap.size w'.heap.size (.slice B os.length l) os) ∧ Below w.heap.size w w' := by
  obtain ⟨a, ha⟩ : ∃ a : Value, a = .slice none 0 0 := ⟨_, rfl⟩
  obtain ⟨p1, p2, p3, p4, p5⟩ := hp
  dsimp only at p1 p2 p3 p4 p5
  rw [← ha]
  obtain ⟨W, hW⟩ : ∃ W, W = (w.alloc (.cells #[.int .i64 n, .int .i64 s, .int .i64 t, a, b, c] 30)).alloc (.cells #[.int .i64 0, .int .i64 0, .int .i64 0, .slice none 0 0, .slice none 0 0, .slice none 0 0] 30) := ⟨_, rfl⟩
  have hb0 : Below w.heap.size w W := by rw [hW]; exact below_2 _ _ _
  have hsz : W.heap.size = w.heap.size + 1 + 1 := by rw [hW]; simp
  have hbox : W.heap[w.heap.size]? = some (.cells #[.int .i64 n, .int .i64 s, .int .i64 t, a, b, c] 30 (0, 0)) := by rw [hW, heap_alloc_old _ _ (by simp)]; exact heap_alloc_new _ _
  have hres : W.heap[w.heap.size + 1]? = some (.cells #[.int .i64 0, .int .i64 0, .int .i64 0, .slice none 0 0, .slice none 0 0, .slice none 0 0] 30 (0, 0)) := by
    rw [hW]; have := heap_alloc_new (w.alloc (.cells #[.int .i64 n, .int .i64 s, .int .i64 t, a, b, c] 30)) (.cells #[.int .i64 0, .int .i64 0, .int .i64 0, .slice none 0 0, .slice none 0 0, .slice none 0 0] 30); simpa using this
  have hBd : Below W.heap.size W W.drew := (Below.refl _ _).drew
  have hS2 : ∀ w', Below W.heap.size W w' → SliceIs Rep.msg.slice false w' 0 w'.heap.size b ms := fun w' hb => ((h2.below hb0 (Nat.le_refl _)).below hb (by omega)).widen (Nat.le_refl _) (by have := hb.size; omega)
  have hS3 : ∀ w', Below W.heap.size W w' → SliceIs Rep.int.slice false w' 0 w'.heap.size c os := fun w' hb => ((h3.below hb0 (Nat.le_refl _)).below hb (by omega)).widen (Nat.le_refl _) (by have := hb.size; omega)
  have hK : ∀ w', Below W.heap.size W w' → _ := fun w' hb => six_cells ((hb.block _ (by omega)).trans hbox)
  have hR : ∀ w', Below W.heap.size W w' → _ := fun w' hb => (hb.block _ (by omega)).trans hres
  have HS2 := Lib.hid hS2; clear hS2
  have HS3 := Lib.hid hS3; clear hS3
  have HK := Lib.hid hK; clear hK
  have HR := Lib.hid hR; clear hR hbox hres
  have HP4 := Lib.hid p4; clear p4
  have HP5 := Lib.hid p5; clear p5
  have HW := Lib.hid hW; clear hW h2 h3
  subst ha
  go_enter Try.func34, Try.ntmps34
  go_wp2_with fail
  rw [← HW.out]
  obtain ⟨k0, k1, k2, k3, k4, k5⟩ := HK.out _ (Below.refl _ _)
  go_region_held3 (fun w' => w'.cell? ⟨w.heap.size, 0, none⟩ = some (.int .i64 n) ∧ w'.cell? ⟨w.heap.size, 1, none⟩ = some (.int .i64 s) ∧ w'.cell? ⟨w.heap.size, 2, none⟩ = some (.int .i64 t) ∧ w'.cell? ⟨w.heap.size, 3, none⟩ = some (.slice none 0 0) ∧ w'.cell? ⟨w.heap.size, 4, none⟩ = some b ∧ w'.cell? ⟨w.heap.size, 5, none⟩ = some c) (first | (refine ⟨?_, ?_, ?_, ?_, ?_, ?_⟩ <;> with_reducible assumption) | go_keep) (first | (go_at_call 40; refine (clone_nil _).mono ?_; rintro e wa ⟨rfl, hb1⟩; have hB1 := hBd.trans (hb1.mono hBd.size); obtain ⟨k0, k1, k2, k3, k4, k5⟩ := HK.out _ hB1) | (go_at_call 41; refine (own_msgs _ ms _ (HS2.out _ hB1) HP4.out p2).mono ?_; rintro e wb ⟨⟨v2, rfl, hv2⟩, hb2⟩; have hB2 := hB1.trans (hb2.mono hB1.size); obtain ⟨k0, k1, k2, k3, k4, k5⟩ := HK.out _ hB2; have hv2' := hv2; obtain ⟨A2, q2, rfl, _⟩ := hv2') | (go_at_call 42; refine (own_ints _ os _ (HS3.out _ hB2) HP5.out p3).mono ?_; rintro e wc ⟨⟨v3, rfl, hv3⟩, hb3⟩; have hB3 := hB2.trans (hb3.mono hB2.size); obtain ⟨k0, k1, k2, k3, k4, k5⟩ := HK.out _ hB3; have hv3' := hv3; obtain ⟨A3, q3, rfl, _⟩ := hv3'; have hrs := HR.out _ hB3; obtain ⟨c0, c1, c2, c3, c4, c5⟩ := six_cells hrs; obtain ⟨f0, f1, f2, f3, f4, f5⟩ := six_free hrs; have HRS := Lib.hid hrs; clear hrs))
  go_wp2_with fail
  have r := six_set HRS.out (.int .i64 n) (.int .i64 s) (.int .i64 t) (.slice none 0 0) (.slice A2 ms.length q2) (.slice A3 os.length q3)
  obtain ⟨g0, g1, g2, g3, g4, g5⟩ := six_cells r
  have hk := six_keeps (w := wc) (w0 := wc) (gp := w.heap.size + 1) (R := w.heap.size + 1) ⟨Nat.le_refl _, fun _ _ _ => rfl⟩ (Nat.le_refl _) (.int .i64 n) (.int .i64 s) (.int .i64 t) (.slice none 0 0) (.slice A2 ms.length q2) (.slice A3 os.length q3)
  have hbf := six_below (hb0.trans (hB3.mono (by omega))) (R := w.heap.size + 1) (by omega) (.int .i64 n) (.int .i64 s) (.int .i64 t) (.slice none 0 0) (.slice A2 ms.length q2) (.slice A3 os.length q3)
  have z1 := hBd.size
  have z2 := hb1.size
  have z3 := hb2.size
  have z4 := hb3.size
  have zd : W.drew.heap.size = W.heap.size := rfl
  refine bodyPost_ret (v := .agg #[.int .i64 n, .int .i64 s, .int .i64 t, .slice none 0 0, .slice A2 ms.length q2, .slice A3 os.length q3]) (by simp [results, Try.results34, go_sem, g0, g1, g2, g3, g4, g5]) rfl ⟨⟨_, _, _, _, rfl, ?_, ?_⟩, hbf⟩
  · exact ((hv2.below hb3 (Nat.le_refl _)).keep fun b h1 h2 => hk.2 b (by omega) (by omega)).widen (by omega) (Nat.le_trans (by omega) hk.1)
  · exact (hv3.keep fun b h1 h2 => hk.2 b (by omega) (by omega)).widen (by omega) hk.1
end Go.Proofs.Ytmbilaepeekglaa
