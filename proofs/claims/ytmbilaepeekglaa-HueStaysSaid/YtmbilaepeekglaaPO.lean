/- slices.Clone, piece.own, piece.Own -/
import Derived.Test.YtmbilaepeekglaaHX
import Derived.Test.YtmbilaepeekglaaAcc
import Derived.Test.YtmbilaepeekglaaSeq
import Derived.Test.YtmbilaepeekglaaProg
namespace Go.Proofs.Ytmbilaepeekglaa
open Go.RowKit

theorem slice_cut1 {α : Type} {r : Rep α} {A : Option Addr} {w : World} {lo hi : Nat} {x : α} {l : List α} {c : Nat} (h : SliceAt r false w lo hi A (x :: l)) (hl : l.length + 1 ≤ c) (hc : c ≤ maxLen) (g o : Nat) (hA : A = some ⟨g, o, none⟩) :
    SliceIs r false w lo hi (.slice (if c = 1 then some ⟨g, o, none⟩ else some ⟨g, o + r.size, none⟩) l.length (c - 1)) l := by
  subst hA
  refine ⟨_, _, rfl, by omega, by omega, ?_⟩
  obtain ⟨cells, h1, h2⟩ := h
  obtain ⟨cs, rest, rfl, h3, h4⟩ := h1
  refine ⟨rest, h4, fun hn => ?_⟩
  obtain ⟨g', o', he, h5, h6⟩ := h2 (by simp)
  injection he with he
  injection he with he1 he2
  subst he1 he2
  rw [if_neg (by omega)]
  refine ⟨g, o + r.size, rfl, h5, fun j u hj => ?_⟩
  have := h6 (r.size + j) u (by rw [List.getElem?_append_right (by rw [r.len h3]; omega), r.len h3, Nat.add_sub_cancel_left]; exact hj)
  rwa [show o + r.size + j = o + (r.size + j) from by omega]

/-- Elements that lead nowhere. -/
def Rep.flat {α : Type} (r : Rep α) : Prop := ∀ {fr w S fr' w' S' cs a}, r.is fr w S cs a → r.is fr' w' S' cs a
theorem flat_int : Rep.int.flat := fun h => h
theorem flat_msg : Rep.msg.flat := fun h => h
theorem Rep.all_flat {α : Type} {r : Rep α} (hf : r.flat) {fr fr' : Bool} {w w' : World} {S S' : Nat → Prop} : ∀ {xs : List α} {cells : List Value}, r.all fr w S cells xs → r.all fr' w' S' cells xs := by
  intro xs
  induction xs with
  | nil => intro cells h; exact h
  | cons x xs ih =>
    intro cells h
    obtain ⟨cs, rest, rfl, h3, h4⟩ := h
    exact ⟨cs, rest, rfl, hf h3, ih h4⟩


set_option maxRecDepth 100000 in
set_option maxHeartbeats 2000000 in
theorem clone_ints (v : Value) (xs : List Int) (w : World) (h : SliceIs Rep.int false w 0 w.heap.size v xs) (hx : xs.length ≤ 1000000) : Calls Try.prog 40 #[v] w
    fun x w' => (∃ v', x = .returned v' ∧ SliceIs Rep.int true w' w.heap.size w'.heap.size v' xs) ∧ Below w.heap.size w w' := by
  obtain ⟨A, c, rfl, hl, hm, hA⟩ := h
  have q : ∀ (w : World) (a : Option Addr) (n c n' c' : Nat), (binOp .eql 23 (.slice a n c) (.slice none n' c')).run Try.prog w = .ok (.bool a.isNone) w := fun w a n c n' c' => Lib.run_eql_slice_nil w _ _ a n c n' c' Try.underlying23
  cases A with
  | none =>
    have hxs : xs = [] := by
      obtain ⟨cells, _, h2⟩ := hA
      rcases Nat.eq_zero_or_pos xs.length with h0 | h0
      · exact List.eq_nil_of_length_eq_zero h0
      · obtain ⟨_, _, h, _⟩ := h2 h0; cases h
    subst hxs
    clear hA
    go_enter Try.func40, Try.ntmps40
    go_wp2_with fail
    go_ret
    exact ⟨⟨_, rfl, SliceIs.none_⟩, Below.refl _ _⟩
  | some a =>
    have hown : (w.alloc (.cells ([] : List Value).toArray 3)).ownsRow w.heap.size 3 Rep.int.size (.slice (some ⟨w.heap.size, 0, none⟩) 0 0) 0 [] := own_lit (size := Rep.int.size) w.heap.size 3 0 [] (by simp) (Nat.le_refl _) (by unfold maxLen; omega)
    have hb0 : Below w.heap.size w (w.alloc (.cells ([] : List Value).toArray 3)) := (Below.refl _ _).alloc (Nat.le_refl _) _
    have hA2 := hA.below hb0 (Nat.le_refl _)
    have HO := Lib.hid hown; clear hown
    have HA := Lib.hid hA2; clear hA2 hA
    go_enter Try.func40, Try.ntmps40
    go_wp2_with (at_builtin; refine wpList_appendS (r := Rep.int) rfl (.tmp 5) (.tmp 6) 23 rfl w.heap.size 3 Try.infoInt Try.underlying23 rfl _ 0 [] rfl HO.out _ _ rfl HA.out (by unfold maxLen; omega) (by omega) (by simp) ?_; intro v1 w1 news hn hown1 hg1 hb1 ha1)
    go_ret
    refine ⟨⟨_, rfl, SliceIs.of_own (r := Rep.int) (base := w.heap.size) (e := 3) (cells := news) (by simpa using hown1) (Rep.all_flat flat_int hn) (Nat.le_refl _) (Nat.le_refl _)⟩, hb0.trans hb1⟩

set_option maxRecDepth 100000 in
set_option maxHeartbeats 2000000 in
theorem clone_msgs (v : Value) (xs : List (Int × Int)) (w : World) (h : SliceIs Rep.msg false w 0 w.heap.size v xs) (hx : xs.length ≤ 1000000) : Calls Try.prog 45 #[v] w
    fun x w' => (∃ v', x = .returned v' ∧ SliceIs Rep.msg true w' w.heap.size w'.heap.size v' xs) ∧ Below w.heap.size w w' := by
  obtain ⟨A, c, rfl, hl, hm, hA⟩ := h
  have q : ∀ (w : World) (a : Option Addr) (n c n' c' : Nat), (binOp .eql 24 (.slice a n c) (.slice none n' c')).run Try.prog w = .ok (.bool a.isNone) w := fun w a n c n' c' => Lib.run_eql_slice_nil w _ _ a n c n' c' Try.underlying24
  cases A with
  | none =>
    have hxs : xs = [] := by
      obtain ⟨cells, _, h2⟩ := hA
      rcases Nat.eq_zero_or_pos xs.length with h0 | h0
      · exact List.eq_nil_of_length_eq_zero h0
      · obtain ⟨_, _, h, _⟩ := h2 h0; cases h
    subst hxs
    clear hA
    go_enter Try.func45, Try.ntmps45
    go_wp2_with fail
    go_ret
    exact ⟨⟨_, rfl, SliceIs.none_⟩, Below.refl _ _⟩
  | some a =>
    have hown : (w.alloc (.cells ([] : List Value).toArray 54)).ownsRow w.heap.size 54 Rep.msg.size (.slice (some ⟨w.heap.size, 0, none⟩) 0 0) 0 [] := own_lit (size := Rep.msg.size) w.heap.size 54 0 [] (by simp) (Nat.le_refl _) (by unfold maxLen; omega)
    have hb0 : Below w.heap.size w (w.alloc (.cells ([] : List Value).toArray 54)) := (Below.refl _ _).alloc (Nat.le_refl _) _
    have hA2 := hA.below hb0 (Nat.le_refl _)
    have HO := Lib.hid hown; clear hown
    have HA := Lib.hid hA2; clear hA2 hA
    go_enter Try.func45, Try.ntmps45
    go_wp2_with (at_builtin; refine wpList_appendS (r := Rep.msg) rfl (.tmp 5) (.tmp 6) 24 rfl w.heap.size 54 Try.infoMsg Try.underlying24 rfl _ 0 [] rfl HO.out _ _ rfl HA.out (by unfold maxLen; omega) (by omega) (by simp) ?_; intro v1 w1 news hn hown1 hg1 hb1 ha1)
    go_ret
    refine ⟨⟨_, rfl, SliceIs.of_own (r := Rep.msg) (base := w.heap.size) (e := 54) (cells := news) (by simpa using hown1) (Rep.all_flat flat_msg hn) (Nat.le_refl _) (Nat.le_refl _)⟩, hb0.trans hb1⟩

/-- Block g holds the lists that are left, a slice of type T. -/
def RdrO {α : Type} (r : Rep α) (T : TypeId) (g : Nat) (w : World) (l : List (List α)) : Prop := ∃ v, w.heap[g]? = some (.cells #[v] T (0, 0)) ∧ SliceIs r.slice false w 0 g v l
theorem RdrO.far {α : Type} {r : Rep α} {T : TypeId} {g : Nat} {w w' : World} {l : List (List α)} (h : RdrO r T g w l) (hb : ∀ b, b ≤ g → w'.heap[b]? = w.heap[b]?) : RdrO r T g w' l := by
  obtain ⟨v, h1, h2⟩ := h
  exact ⟨v, (hb g (Nat.le_refl _)).trans h1, h2.keep fun b _ hb2 => hb b (by omega)⟩


set_option maxRecDepth 100000 in
set_option maxHeartbeats 2000000 in
theorem own1_msgs (g : Nat) (x : List (Int × Int)) (l : List (List (Int × Int))) (w : World) (h : RdrO Rep.msg 25 g w (x :: l)) (hx : x.length ≤ 1000000) : Calls Try.prog 44 #[.pointer (some ⟨g, 0, none⟩)] w
    fun y w' => (∃ v, y = .returned v ∧ SliceIs Rep.msg true w' w.heap.size w'.heap.size v x) ∧ RdrO Rep.msg 25 g w' l ∧ w.grownBy w' (some g) := by
  obtain ⟨v, h1, A, c, rfl, hl, hc, hA⟩ := h
  have c0 := cell_of_one h1
  have f0 := free_of_one h1
  have hlt := lt_of_block h1
  have H1 := Lib.hid h1; clear h1
  obtain ⟨gx, ox, vx, rfl, _, hgx, d0, hvx⟩ := hA.row (k := 0) (x := x) rfl
  rw [Nat.add_zero] at d0
  have hS := slice_cut1 hA (by simpa using hl) hc gx ox rfl
  have hC := clone_msgs vx x w (hvx.widen (Nat.le_refl _) (by omega)) hx
  have HC := Lib.hid hC; clear hC hvx hA
  have hl' : l.length + 1 ≤ c := by simpa using hl
  unfold maxLen at hc
  have key : ∀ (w1 : World) (u : Value), Below w.heap.size w w1 → SliceIs Rep.msg.slice false w 0 g u l → RdrO Rep.msg 25 g (w1.setCell ⟨g, 0, none⟩ u) l ∧ w.grownBy (w1.setCell ⟨g, 0, none⟩ u) (some g) := fun w1 u hb hu =>
    ⟨⟨u, one_setCell ((hb.block g hlt).trans H1.out), (hu.below hb (by omega)).keep fun b _ hb => heap_setCell_other _ _ _ _ (by simp; omega)⟩, grown_trans (grown_of_below hb) (grown_set u)⟩
  have KEY := Lib.hid key; clear key
  have cr : ∀ w1, Below w.heap.size w w1 → w1.cell? ⟨g, 0, none⟩ = some (.slice (some ⟨gx, ox, none⟩) (x :: l).length c) ∧ w1.frozen? ⟨g, 0, none⟩ = false := fun w1 hb => ⟨cell_of_one ((hb.block g hlt).trans H1.out), free_of_one ((hb.block g hlt).trans H1.out)⟩
  have CR := Lib.hid cr; clear cr
  by_cases hc1 : c = 1
  · subst hc1
    obtain rfl : l = [] := List.eq_nil_of_length_eq_zero (by omega)
    rw [if_pos rfl] at hS
    have HS := Lib.hid hS; clear hS
    go_enter Try.func44, Try.ntmps44
    go_wp2_with fail
    refine (HC.out).mono ?_
    rintro e w1 ⟨⟨v1, rfl, hv1⟩, hb1⟩
    obtain ⟨c1, f1⟩ := CR.out w1 hb1
    clear c0 f0
    go_wp2_with fail
    go_ret
    exact ⟨⟨_, rfl, set_slice hv1 (by simpa using hlt) _ |>.widen (Nat.le_refl _) (by simp [World.setCell])⟩, KEY.out w1 _ hb1 HS.out⟩
  · rw [if_neg hc1] at hS
    have HS := Lib.hid hS; clear hS
    go_enter Try.func44, Try.ntmps44
    go_wp2_with fail
    refine (HC.out).mono ?_
    rintro e w1 ⟨⟨v1, rfl, hv1⟩, hb1⟩
    obtain ⟨c1, f1⟩ := CR.out w1 hb1
    clear c0 f0
    go_wp2_with fail
    go_ret
    exact ⟨⟨_, rfl, set_slice hv1 (by simpa using hlt) _ |>.widen (Nat.le_refl _) (by simp [World.setCell])⟩, KEY.out w1 _ hb1 HS.out⟩

set_option maxRecDepth 100000 in
set_option maxHeartbeats 4000000 in
theorem own_msgs_lists (g : Nat) (xs : List (List (Int × Int))) (w : World) (hr : RdrO Rep.msg 25 g w xs) (hlt : g < w.heap.size) (hx : ∀ x ∈ xs, x.length ≤ 1000000) (hn : xs.length ≤ 1000000) :
    Calls Try.prog 43 #[.int .i64 xs.length, .func (.func 44) #[] #[.pointer (some ⟨g, 0, none⟩)]] w fun y w' => (∃ v, y = .returned v ∧ SliceIs Rep.msg.slice true w' w.heap.size w'.heap.size v xs) ∧ w.grownBy w' (some g) := by
  have HX := Lib.hid hx; clear hx
  go_enter Try.func43, Try.ntmps43
  go_wp2_with fail
  go_loopg [5, 7] xs.length (fun k v i wr => ∃ j : Nat, i = .int .i64 (j : Int) ∧ j ≤ xs.length ∧ k = xs.length - j ∧ Acc Rep.msg.slice 24 w.heap.size wr v (xs.take j) ∧ RdrO Rep.msg 25 g wr (xs.drop j) ∧ w.grownBy wr (some g))
  case atStart => exact ⟨0, rfl, by omega, by omega, Acc.nil _ _ _ _, hr, World.grownBy.refl _ _⟩
  case round =>
    clear hr
    obtain ⟨j, rfl, hj, hk, ha, hr, hg⟩ := hrel
    have HK := Lib.hid hk; clear hk
    by_cases hjn : j < xs.length
    · obtain ⟨x, hx⟩ := Pc.get_at hjn
      rw [Pc.drop_at hx] at hr
      have hxl := HX.out x (List.mem_of_getElem? hx)
      have htn := Pc.take_next hx
      have HTN := Lib.hid htn; clear htn
      clear hx
      go_wp2_with fail
      refine (own1_msgs g x _ _ hr hxl).mono ?_
      rintro e w1 ⟨⟨v1, rfl, hv1⟩, hr1, hg1⟩
      obtain ⟨A1, c1, rfl, hl1, hm1, ha1⟩ := hv1
      have hsz := hg.size
      have hsz1 := hg1.size
      go_wp2_with (at_builtin; refine wpList_accB (r := Rep.msg.slice) (xs := xs.take j) (y := x) rfl (.tmp 9) (.tmp 12) 25 rfl w.heap.size 24 Try.infoMsgs Try.underlying25 rfl (by omega) _ rfl ha (fun b h1 h2 => grown_keep hg1 h2 (by omega)) hg1.size hsz 1 _ [.slice A1 x.length c1] rfl (by simp) ⟨_, rfl, A1, c1, rfl, hl1, hm1, ha1⟩ (by simp; omega) ?_; intro v2 w2 hacc2 hgr2 hb2)
      rw [← HTN.out] at hacc2
      go_roundg (xs.length - (j + 1))
      case rel => exact ⟨j + 1, by simp, by omega, rfl, hacc2, hr1.far (fun b hb => hb2.block b (by omega)), ⟨hb2.os.trans (grown_trans hg hg1).os, hb2.tape.trans (grown_trans hg hg1).tape, hb2.output.trans (grown_trans hg hg1).output, Nat.le_trans (grown_trans hg hg1).size hb2.size, fun k hk hne => (hb2.block k (by omega)).trans ((grown_trans hg hg1).block k hk hne)⟩⟩
      case measure => have := HK.out; omega
    · have hs := ha.slice
      rw [List.take_of_length_le (by omega)] at hs
      have HS := Lib.hid hs; clear hs ha hr
      go_wp2_with fail
      go_ret
      exact ⟨⟨_, rfl, HS.out⟩, hg⟩

set_option maxRecDepth 100000 in
set_option maxHeartbeats 4000000 in
theorem own_msgs (v : Value) (xs : List (List (Int × Int))) (w : World) (h : SliceIs Rep.msg.slice false w 0 w.heap.size v xs) (hx : ∀ x ∈ xs, x.length ≤ 1000000) (hn : xs.length ≤ 1000000) : Calls Try.prog 41 #[v] w
    fun y w' => (∃ v', y = .returned v' ∧ SliceIs Rep.msg.slice true w' w.heap.size w'.heap.size v' xs) ∧ Below w.heap.size w w' := by
  have hmf : ∀ (fn : Fn) (first cap : Array Value) (w : World), (Instr.makeFunc fn first cap).run Try.prog w = .ok (.func fn first cap) w := fun _ _ _ _ => rfl
  have hb0 : Below w.heap.size w (w.alloc (.cells #[v] 25)) := (Below.refl _ _).alloc (Nat.le_refl _) _
  have hr : RdrO Rep.msg 25 w.heap.size (w.alloc (.cells #[v] 25)) xs := ⟨v, heap_alloc_new _ _, h.below hb0 (Nat.le_refl _)⟩
  obtain ⟨A, c, rfl, hl, hm, hA⟩ := h
  have HL := Lib.hid (own_msgs_lists w.heap.size xs _ hr (by simp) hx hn)
  clear hr hx hA
  unfold maxLen at hm
  go_enter Try.func41, Try.ntmps41
  go_wp2_with fail
  refine (HL.out).mono ?_
  rintro e w1 ⟨⟨v1, rfl, hv1⟩, hg1⟩
  go_wp2_with fail
  go_ret
  refine ⟨⟨_, rfl, hv1.widen (by simp) (Nat.le_refl _)⟩, hb0.trans ⟨hg1.os, hg1.tape, hg1.output, hg1.size, fun k hk => hg1.block k (by simp; omega) (by intro e; injection e; omega)⟩⟩

set_option maxRecDepth 100000 in
set_option maxHeartbeats 2000000 in
theorem own1_ints (g : Nat) (x : List Int) (l : List (List Int)) (w : World) (h : RdrO Rep.int 26 g w (x :: l)) (hx : x.length ≤ 1000000) : Calls Try.prog 47 #[.pointer (some ⟨g, 0, none⟩)] w
    fun y w' => (∃ v, y = .returned v ∧ SliceIs Rep.int true w' w.heap.size w'.heap.size v x) ∧ RdrO Rep.int 26 g w' l ∧ w.grownBy w' (some g) := by
  obtain ⟨v, h1, A, c, rfl, hl, hc, hA⟩ := h
  have c0 := cell_of_one h1
  have f0 := free_of_one h1
  have hlt := lt_of_block h1
  have H1 := Lib.hid h1; clear h1
  obtain ⟨gx, ox, vx, rfl, _, hgx, d0, hvx⟩ := hA.row (k := 0) (x := x) rfl
  rw [Nat.add_zero] at d0
  have hS := slice_cut1 hA (by simpa using hl) hc gx ox rfl
  have hC := clone_ints vx x w (hvx.widen (Nat.le_refl _) (by omega)) hx
  have HC := Lib.hid hC; clear hC hvx hA
  have hl' : l.length + 1 ≤ c := by simpa using hl
  unfold maxLen at hc
  have key : ∀ (w1 : World) (u : Value), Below w.heap.size w w1 → SliceIs Rep.int.slice false w 0 g u l → RdrO Rep.int 26 g (w1.setCell ⟨g, 0, none⟩ u) l ∧ w.grownBy (w1.setCell ⟨g, 0, none⟩ u) (some g) := fun w1 u hb hu =>
    ⟨⟨u, one_setCell ((hb.block g hlt).trans H1.out), (hu.below hb (by omega)).keep fun b _ hb => heap_setCell_other _ _ _ _ (by simp; omega)⟩, grown_trans (grown_of_below hb) (grown_set u)⟩
  have KEY := Lib.hid key; clear key
  have cr : ∀ w1, Below w.heap.size w w1 → w1.cell? ⟨g, 0, none⟩ = some (.slice (some ⟨gx, ox, none⟩) (x :: l).length c) ∧ w1.frozen? ⟨g, 0, none⟩ = false := fun w1 hb => ⟨cell_of_one ((hb.block g hlt).trans H1.out), free_of_one ((hb.block g hlt).trans H1.out)⟩
  have CR := Lib.hid cr; clear cr
  by_cases hc1 : c = 1
  · subst hc1
    obtain rfl : l = [] := List.eq_nil_of_length_eq_zero (by omega)
    rw [if_pos rfl] at hS
    have HS := Lib.hid hS; clear hS
    go_enter Try.func47, Try.ntmps47
    go_wp2_with fail
    refine (HC.out).mono ?_
    rintro e w1 ⟨⟨v1, rfl, hv1⟩, hb1⟩
    obtain ⟨c1, f1⟩ := CR.out w1 hb1
    clear c0 f0
    go_wp2_with fail
    go_ret
    exact ⟨⟨_, rfl, set_slice hv1 (by simpa using hlt) _ |>.widen (Nat.le_refl _) (by simp [World.setCell])⟩, KEY.out w1 _ hb1 HS.out⟩
  · rw [if_neg hc1] at hS
    have HS := Lib.hid hS; clear hS
    go_enter Try.func47, Try.ntmps47
    go_wp2_with fail
    refine (HC.out).mono ?_
    rintro e w1 ⟨⟨v1, rfl, hv1⟩, hb1⟩
    obtain ⟨c1, f1⟩ := CR.out w1 hb1
    clear c0 f0
    go_wp2_with fail
    go_ret
    exact ⟨⟨_, rfl, set_slice hv1 (by simpa using hlt) _ |>.widen (Nat.le_refl _) (by simp [World.setCell])⟩, KEY.out w1 _ hb1 HS.out⟩

set_option maxRecDepth 100000 in
set_option maxHeartbeats 4000000 in
theorem own_ints_lists (g : Nat) (xs : List (List Int)) (w : World) (hr : RdrO Rep.int 26 g w xs) (hlt : g < w.heap.size) (hx : ∀ x ∈ xs, x.length ≤ 1000000) (hn : xs.length ≤ 1000000) :
    Calls Try.prog 46 #[.int .i64 xs.length, .func (.func 47) #[] #[.pointer (some ⟨g, 0, none⟩)]] w fun y w' => (∃ v, y = .returned v ∧ SliceIs Rep.int.slice true w' w.heap.size w'.heap.size v xs) ∧ w.grownBy w' (some g) := by
  have HX := Lib.hid hx; clear hx
  go_enter Try.func46, Try.ntmps46
  go_wp2_with fail
  go_loopg [5, 7] xs.length (fun k v i wr => ∃ j : Nat, i = .int .i64 (j : Int) ∧ j ≤ xs.length ∧ k = xs.length - j ∧ Acc Rep.int.slice 23 w.heap.size wr v (xs.take j) ∧ RdrO Rep.int 26 g wr (xs.drop j) ∧ w.grownBy wr (some g))
  case atStart => exact ⟨0, rfl, by omega, by omega, Acc.nil _ _ _ _, hr, World.grownBy.refl _ _⟩
  case round =>
    clear hr
    obtain ⟨j, rfl, hj, hk, ha, hr, hg⟩ := hrel
    have HK := Lib.hid hk; clear hk
    by_cases hjn : j < xs.length
    · obtain ⟨x, hx⟩ := Pc.get_at hjn
      rw [Pc.drop_at hx] at hr
      have hxl := HX.out x (List.mem_of_getElem? hx)
      have htn := Pc.take_next hx
      have HTN := Lib.hid htn; clear htn
      clear hx
      go_wp2_with fail
      refine (own1_ints g x _ _ hr hxl).mono ?_
      rintro e w1 ⟨⟨v1, rfl, hv1⟩, hr1, hg1⟩
      obtain ⟨A1, c1, rfl, hl1, hm1, ha1⟩ := hv1
      have hsz := hg.size
      have hsz1 := hg1.size
      go_wp2_with (at_builtin; refine wpList_accB (r := Rep.int.slice) (xs := xs.take j) (y := x) rfl (.tmp 9) (.tmp 12) 26 rfl w.heap.size 23 Try.infoInts Try.underlying26 rfl (by omega) _ rfl ha (fun b h1 h2 => grown_keep hg1 h2 (by omega)) hg1.size hsz 1 _ [.slice A1 x.length c1] rfl (by simp) ⟨_, rfl, A1, c1, rfl, hl1, hm1, ha1⟩ (by simp; omega) ?_; intro v2 w2 hacc2 hgr2 hb2)
      rw [← HTN.out] at hacc2
      go_roundg (xs.length - (j + 1))
      case rel => exact ⟨j + 1, by simp, by omega, rfl, hacc2, hr1.far (fun b hb => hb2.block b (by omega)), ⟨hb2.os.trans (grown_trans hg hg1).os, hb2.tape.trans (grown_trans hg hg1).tape, hb2.output.trans (grown_trans hg hg1).output, Nat.le_trans (grown_trans hg hg1).size hb2.size, fun k hk hne => (hb2.block k (by omega)).trans ((grown_trans hg hg1).block k hk hne)⟩⟩
      case measure => have := HK.out; omega
    · have hs := ha.slice
      rw [List.take_of_length_le (by omega)] at hs
      have HS := Lib.hid hs; clear hs ha hr
      go_wp2_with fail
      go_ret
      exact ⟨⟨_, rfl, HS.out⟩, hg⟩

set_option maxRecDepth 100000 in
set_option maxHeartbeats 4000000 in
theorem own_ints (v : Value) (xs : List (List Int)) (w : World) (h : SliceIs Rep.int.slice false w 0 w.heap.size v xs) (hx : ∀ x ∈ xs, x.length ≤ 1000000) (hn : xs.length ≤ 1000000) : Calls Try.prog 42 #[v] w
    fun y w' => (∃ v', y = .returned v' ∧ SliceIs Rep.int.slice true w' w.heap.size w'.heap.size v' xs) ∧ Below w.heap.size w w' := by
  have hmf : ∀ (fn : Fn) (first cap : Array Value) (w : World), (Instr.makeFunc fn first cap).run Try.prog w = .ok (.func fn first cap) w := fun _ _ _ _ => rfl
  have hb0 : Below w.heap.size w (w.alloc (.cells #[v] 26)) := (Below.refl _ _).alloc (Nat.le_refl _) _
  have hr : RdrO Rep.int 26 w.heap.size (w.alloc (.cells #[v] 26)) xs := ⟨v, heap_alloc_new _ _, h.below hb0 (Nat.le_refl _)⟩
  obtain ⟨A, c, rfl, hl, hm, hA⟩ := h
  have HL := Lib.hid (own_ints_lists w.heap.size xs _ hr (by simp) hx hn)
  clear hr hx hA
  unfold maxLen at hm
  go_enter Try.func42, Try.ntmps42
  go_wp2_with fail
  refine (HL.out).mono ?_
  rintro e w1 ⟨⟨v1, rfl, hv1⟩, hg1⟩
  go_wp2_with fail
  go_ret
  refine ⟨⟨_, rfl, hv1.widen (by simp) (Nat.le_refl _)⟩, hb0.trans ⟨hg1.os, hg1.tape, hg1.output, hg1.size, fun k hk => hg1.block k (by simp; omega) (by intro e; injection e; omega)⟩⟩

namespace Pc
/-- Lists that are not too long to be copied. -/
def sized (p : Piece) : Prop := p.sent.length ≤ 1000000 ∧ p.inn.length ≤ 1000000 ∧ p.out.length ≤ 1000000 ∧ (∀ x ∈ p.inn, x.length ≤ 1000000) ∧ (∀ x ∈ p.out, x.length ≤ 1000000)
end Pc

set_option maxRecDepth 100000 in
set_option maxHeartbeats 4000000 in
theorem Own_any (v : Value) (p : Pc.Piece) (w : World) (h : PieceIs false w 0 w.heap.size v p) (hp : Pc.sized p) : Calls Try.prog 34 #[v] w
    fun y w' => (∃ v', y = .returned v' ∧ PieceIs true w' w.heap.size w'.heap.size v' p) ∧ Below w.heap.size w w' := by
  obtain ⟨n, s, t, xs, ms, os⟩ := p
  obtain ⟨a, b, c, rfl, h1, h2, h3⟩ := h
  obtain ⟨p1, p2, p3, p4, p5⟩ := hp
  dsimp only at h1 h2 h3 p1 p2 p3 p4 p5
  obtain ⟨W, hW⟩ : ∃ W, W = (w.alloc (.cells #[.int .i64 n, .int .i64 s, .int .i64 t, a, b, c] 30)).alloc (.cells #[.int .i64 0, .int .i64 0, .int .i64 0, .slice none 0 0, .slice none 0 0, .slice none 0 0] 30) := ⟨_, rfl⟩
  have hb0 : Below w.heap.size w W := by rw [hW]; exact below_2 _ _ _
  have hsz : W.heap.size = w.heap.size + 1 + 1 := by rw [hW]; simp
  have hbox : W.heap[w.heap.size]? = some (.cells #[.int .i64 n, .int .i64 s, .int .i64 t, a, b, c] 30 (0, 0)) := by rw [hW, heap_alloc_old _ _ (by simp)]; exact heap_alloc_new _ _
  have hres : W.heap[w.heap.size + 1]? = some (.cells #[.int .i64 0, .int .i64 0, .int .i64 0, .slice none 0 0, .slice none 0 0, .slice none 0 0] 30 (0, 0)) := by
    rw [hW]; have := heap_alloc_new (w.alloc (.cells #[.int .i64 n, .int .i64 s, .int .i64 t, a, b, c] 30)) (.cells #[.int .i64 0, .int .i64 0, .int .i64 0, .slice none 0 0, .slice none 0 0, .slice none 0 0] 30); simpa using this
  have hBd : Below W.heap.size W W.drew := (Below.refl _ _).drew
  have hS1 : ∀ w', Below W.heap.size W w' → SliceIs Rep.int false w' 0 w'.heap.size a xs := fun w' hb => ((h1.below hb0 (Nat.le_refl _)).below hb (by omega)).widen (Nat.le_refl _) (by have := hb.size; omega)
  have hS2 : ∀ w', Below W.heap.size W w' → SliceIs Rep.msg.slice false w' 0 w'.heap.size b ms := fun w' hb => ((h2.below hb0 (Nat.le_refl _)).below hb (by omega)).widen (Nat.le_refl _) (by have := hb.size; omega)
  have hS3 : ∀ w', Below W.heap.size W w' → SliceIs Rep.int.slice false w' 0 w'.heap.size c os := fun w' hb => ((h3.below hb0 (Nat.le_refl _)).below hb (by omega)).widen (Nat.le_refl _) (by have := hb.size; omega)
  have hK : ∀ w', Below W.heap.size W w' → _ := fun w' hb => six_cells ((hb.block _ (by omega)).trans hbox)
  have hR : ∀ w', Below W.heap.size W w' → _ := fun w' hb => (hb.block _ (by omega)).trans hres
  have HS1 := Lib.hid hS1; clear hS1
  have HS2 := Lib.hid hS2; clear hS2
  have HS3 := Lib.hid hS3; clear hS3
  have HK := Lib.hid hK; clear hK
  have HR := Lib.hid hR; clear hR hbox hres
  have HP4 := Lib.hid p4; clear p4
  have HP5 := Lib.hid p5; clear p5
  have HW := Lib.hid hW; clear hW h1 h2 h3
  go_enter Try.func34, Try.ntmps34
  go_wp2_with fail
  rw [← HW.out]
  obtain ⟨k0, k1, k2, k3, k4, k5⟩ := HK.out _ (Below.refl _ _)
  go_region_held3 (fun w' => w'.cell? ⟨w.heap.size, 0, none⟩ = some (.int .i64 n) ∧ w'.cell? ⟨w.heap.size, 1, none⟩ = some (.int .i64 s) ∧ w'.cell? ⟨w.heap.size, 2, none⟩ = some (.int .i64 t) ∧ w'.cell? ⟨w.heap.size, 3, none⟩ = some a ∧ w'.cell? ⟨w.heap.size, 4, none⟩ = some b ∧ w'.cell? ⟨w.heap.size, 5, none⟩ = some c) (first | (refine ⟨?_, ?_, ?_, ?_, ?_, ?_⟩ <;> with_reducible assumption) | go_keep) (first | (go_at_call 40; refine (clone_ints _ xs _ (HS1.out _ hBd) p1).mono ?_; rintro e wa ⟨⟨v1, rfl, hv1⟩, hb1⟩; have hB1 := hBd.trans (hb1.mono hBd.size); obtain ⟨k0, k1, k2, k3, k4, k5⟩ := HK.out _ hB1; have hv1' := hv1; obtain ⟨A1, q1, rfl, _⟩ := hv1') | (go_at_call 41; refine (own_msgs _ ms _ (HS2.out _ hB1) HP4.out p2).mono ?_; rintro e wb ⟨⟨v2, rfl, hv2⟩, hb2⟩; have hB2 := hB1.trans (hb2.mono hB1.size); obtain ⟨k0, k1, k2, k3, k4, k5⟩ := HK.out _ hB2; have hv2' := hv2; obtain ⟨A2, q2, rfl, _⟩ := hv2') | (go_at_call 42; refine (own_ints _ os _ (HS3.out _ hB2) HP5.out p3).mono ?_; rintro e wc ⟨⟨v3, rfl, hv3⟩, hb3⟩; have hB3 := hB2.trans (hb3.mono hB2.size); obtain ⟨k0, k1, k2, k3, k4, k5⟩ := HK.out _ hB3; have hv3' := hv3; obtain ⟨A3, q3, rfl, _⟩ := hv3'; have hrs := HR.out _ hB3; obtain ⟨c0, c1, c2, c3, c4, c5⟩ := six_cells hrs; obtain ⟨f0, f1, f2, f3, f4, f5⟩ := six_free hrs; have HRS := Lib.hid hrs; clear hrs))
  go_wp2_with fail
  have r := six_set HRS.out (.int .i64 n) (.int .i64 s) (.int .i64 t) (.slice A1 xs.length q1) (.slice A2 ms.length q2) (.slice A3 os.length q3)
  obtain ⟨g0, g1, g2, g3, g4, g5⟩ := six_cells r
  have hk := six_keeps (w := wc) (w0 := wc) (gp := w.heap.size + 1) (R := w.heap.size + 1) ⟨Nat.le_refl _, fun _ _ _ => rfl⟩ (Nat.le_refl _) (.int .i64 n) (.int .i64 s) (.int .i64 t) (.slice A1 xs.length q1) (.slice A2 ms.length q2) (.slice A3 os.length q3)
  have hbf := six_below (hb0.trans (hB3.mono (by omega))) (R := w.heap.size + 1) (by omega) (.int .i64 n) (.int .i64 s) (.int .i64 t) (.slice A1 xs.length q1) (.slice A2 ms.length q2) (.slice A3 os.length q3)
  have z1 := hBd.size
  have z2 := hb1.size
  have z3 := hb2.size
  have z4 := hb3.size
  have zd : W.drew.heap.size = W.heap.size := rfl
  refine bodyPost_ret (v := .agg #[.int .i64 n, .int .i64 s, .int .i64 t, .slice A1 xs.length q1, .slice A2 ms.length q2, .slice A3 os.length q3]) (by simp [results, Try.results34, go_sem, g0, g1, g2, g3, g4, g5]) rfl ⟨⟨_, rfl, _, _, _, rfl, ?_, ?_, ?_⟩, hbf⟩
  · exact (((hv1.below hb2 (Nat.le_refl _)).below hb3 z3).keep fun b h1 h2 => hk.2 b (by omega) (by omega)).widen (by omega) (Nat.le_trans (by omega) hk.1)
  · exact ((hv2.below hb3 (Nat.le_refl _)).keep fun b h1 h2 => hk.2 b (by omega) (by omega)).widen (by omega) (Nat.le_trans (by omega) hk.1)
  · exact (hv3.keep fun b h1 h2 => hk.2 b (by omega) (by omega)).widen (by omega) hk.1
end Go.Proofs.Ytmbilaepeekglaa
