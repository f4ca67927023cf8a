/- Lemmas, walks and contracts that the statements of this seat are proved by. -/
import Derived.Test.YtdfgnmdofjhnkaaG4
import Derived.Test.YtdfgnmdofjhnkaaG5
import Derived.Test.YtdfgnmdofjhnkaaG3
/- A slice of the call's own that grows, whatever its elements lead to. Nothing of the program. -/
namespace Go.Proofs.Ytdfgnmdofjhnkaa
open Go.RowKit

/-- v: a row of the call's own, in blocks from B on, that reads as xs. -/
def Acc {α : Type} (r : Rep α) (e : TypeId) (B : Nat) (w : World) (v : Value) (xs : List α) : Prop :=
  ∃ cells S, w.ownsRow B e r.size v xs.length cells ∧ r.all true w S cells xs ∧ (∀ b, S b → B ≤ b ∧ b < w.heap.size) ∧ (∀ b, v.ownBlock = some b → ¬ S b)

section
variable {α : Type} {r : Rep α} {e : TypeId} {B : Nat} {w w1 : World} {v : Value} {xs : List α} {x : α} {cs : List Value}
theorem Acc.nil (r : Rep α) (e : TypeId) (B : Nat) (w : World) : Acc r e B w (.slice none 0 0) [] :=
  ⟨[], fun _ => False, World.ownsRow_nil _ _ _ _, rfl, fun _ h => h.elim, fun _ h => by simp [Value.ownBlock] at h⟩
theorem Acc.empty (r : Rep α) (e : TypeId) (w : World) : Acc r e w.heap.size (w.alloc (.cells #[] e)) (.slice (some ⟨w.heap.size, 0, none⟩) 0 0) [] :=
  ⟨[], fun _ => False, own_lit (size := r.size) w.heap.size e 0 [] (by simp) (Nat.le_refl _) (by unfold maxLen; omega), rfl, fun _ h => h.elim, fun _ _ h => h⟩
theorem Acc.lt (h : Acc r e B w v xs) : ∀ b, v.ownBlock = some b → B ≤ b ∧ b < w.heap.size := by
  obtain ⟨cells, S, h1, _⟩ := h; exact h1.lt
theorem Acc.slice (h : Acc r e B w v xs) : SliceIs r true w B w.heap.size v xs := by
  obtain ⟨cells, S, h1, h2, h3, h4⟩ := h
  exact SliceOn.of_own (base := B) (e := e) h1 (Rep.all_widen (fun b hb => h3 b hb) h2) (fun b hb => h1.lt b hb)
theorem Acc.base {B' : Nat} (h : Acc r e B w v xs) (hB : B' ≤ B) : Acc r e B' w v xs := by
  obtain ⟨cells, S, h1, h2, h3, h4⟩ := h
  exact ⟨cells, S, own_base h1 hB, h2, fun b hb => ⟨Nat.le_trans hB (h3 b hb).1, (h3 b hb).2⟩, h4⟩
theorem own_move {size n : Nat} {cells : List Value} (h : w.ownsRow B e size v n cells) (hk : ∀ b, B ≤ b → b < w.heap.size → w1.heap[b]? = w.heap[b]?) : w1.ownsRow B e size v n cells := by
  refine ⟨h.1, ?_⟩
  rcases h.2 with h2 | ⟨g, cap, cur, hv, hg, hh, hr⟩
  · exact .inl h2
  · have hlt : g < w.heap.size := by
      rcases Nat.lt_or_ge g w.heap.size with h' | h'
      · exact h'
      · simp [Array.getElem?_eq_none h'] at hh
    exact .inr ⟨g, cap, cur, hv, hg, (hk g hg hlt).trans hh, hr⟩
theorem Acc.move (h : Acc r e B w v xs) (hk : ∀ b, B ≤ b → b < w.heap.size → w1.heap[b]? = w.heap[b]?) (hs : w.heap.size ≤ w1.heap.size) : Acc r e B w1 v xs := by
  obtain ⟨cells, S, h1, h2, h3, h4⟩ := h
  exact ⟨cells, S, own_move h1 hk, Rep.all_keep (fun b hb => hk b (h3 b hb).1 (h3 b hb).2) h2, fun b hb => ⟨(h3 b hb).1, Nat.lt_of_lt_of_le (h3 b hb).2 hs⟩, h4⟩
theorem Acc.below (h : Acc r e B w v xs) (hb : Below w.heap.size w w1) : Acc r e B w1 v xs := h.move (fun b _ h2 => hb.block b h2) hb.size
/-- One more element, which lies in what was made since. -/
theorem Acc.step (h : Acc r e B w v xs) (hk : ∀ b, B ≤ b → b < w.heap.size → w1.heap[b]? = w.heap[b]?) (hs : w.heap.size ≤ w1.heap.size) (hB : B ≤ w.heap.size) (hcs : r.is true w1 (rng w.heap.size w1.heap.size) cs x) :
    ∃ cells, w1.ownsRow B e r.size v xs.length cells ∧ (∀ v' w2, w2.ownsRow B e r.size v' (xs.length + 1) (cells ++ cs) → w1.grownBy w2 v.ownBlock → (v'.ownBlock = v.ownBlock ∨ ∃ n, v'.ownBlock = some n ∧ w1.heap.size ≤ n) → Acc r e B w2 v' (xs ++ [x])) := by
  obtain ⟨cells, S, h1, h2, h3, h4⟩ := h
  have own1 := own_move h1 hk
  have all1 : r.all true w1 S cells xs := Rep.all_keep (fun b hb => hk b (h3 b hb).1 (h3 b hb).2) h2
  refine ⟨cells, own1, fun v' w2 ho hg ha => ?_⟩
  have k1 : ∀ b, (S b ∨ rng w.heap.size w1.heap.size b) → w2.heap[b]? = w1.heap[b]? := by
    rintro b (hb | hb)
    · exact hg.block b (Nat.lt_of_lt_of_le (h3 b hb).2 hs) (fun he => h4 b he.symm hb)
    · refine hg.block b hb.2 (fun he => ?_)
      have := (h1.lt b he.symm).2
      have := hb.1
      omega
  have hnew : r.all true w2 (fun b => S b ∨ rng w.heap.size w1.heap.size b) (cells ++ cs) (xs ++ [x]) :=
    Rep.all_snoc (Rep.all_keep k1 (Rep.all_widen (fun b hb => .inl hb) all1)) (r.keep (r.widen hcs (fun b hb => .inr hb)) k1)
  refine ⟨cells ++ cs, _, by rw [List.length_append]; exact ho, hnew, ?_, ?_⟩
  · rintro b (hb | hb)
    · exact ⟨(h3 b hb).1, Nat.lt_of_lt_of_le (h3 b hb).2 (Nat.le_trans hs hg.size)⟩
    · exact ⟨by have := hb.1; omega, Nat.lt_of_lt_of_le hb.2 hg.size⟩
  · intro b hb hS
    rcases ha with ha | ⟨n, ha, hn⟩
    · rw [ha] at hb
      rcases hS with hS | hS
      · exact h4 b hb hS
      · have := (h1.lt b hb).2; have := hS.1; omega
    · rw [ha] at hb
      injection hb with hb
      subst hb
      rcases hS with hS | hS
      · have := (h3 _ hS).2; omega
      · have := hS.2; omega
end

section
variable {P : Program} {w : World} {ops : Array Oper} {rest : List Oper} {o : Oper} {a : Act} {Q : Exit → Act → World → Prop}
/-- 'append(s, x)': x's cells lie in a block made on the spot; what x leads to was made since 'w0'. -/
theorem wpList_accB {α : Type} {r : Rep α} {w0 : World} {xs : List α} {y : α} (hgd : o.guard = none) (s x : Operand) (t : TypeId) (ho : o.op = .call { callee := .builtin .append, args := #[s, x], argTypes := #[t, t] })
    (B : Nat) (e : TypeId) {z : Value} {bytes : Nat} (hinfo : (P.info? e).map (fun i => (i.zero, i.size, i.bytes)) = some (some z, r.size, bytes)) (ht : P.underlying t = some (.slice e))
    (hzs : z.cells.size = r.size) (hby : bytes ≤ 1000) (v : Value) (hs : a.eval s = v) (hacc : Acc r e B w0 v xs) (hk : ∀ b, B ≤ b → b < w0.heap.size → w.heap[b]? = w0.heap[b]?) (hsz : w0.heap.size ≤ w.heap.size) (hB : B ≤ w0.heap.size)
    (c H : Nat) (cs : List Value) (hx : a.eval x = .slice (some ⟨H, 0, none⟩) 1 c) (hH : w.heap.size = H) (hcs : r.is true w (rng w0.heap.size w.heap.size) cs y) (hn : xs.length ≤ 1000000)
    (h : ∀ v' w', Acc r e B w' v' (xs ++ [y]) → w.grownBy w' v.ownBlock → Below B w w' → wpList P ops Q rest (a.put o.dst v') w') : wpList P ops Q (o :: rest) a (w.alloc (.cells cs.toArray e)) := by
  obtain ⟨cells, hown, hnext⟩ := hacc.step hk hsz hB hcs
  refine wpList_appendB hgd s x t ho B e hinfo ht hzs r.pos v xs.length cells hs hown 1 c H cs hx hH (by rw [r.len hcs]; omega) (r.one hcs) (by unfold maxLen; omega) (Nat.le_trans (Nat.mul_le_mul (show xs.length + 1 ≤ 1000001 by omega) hby) (by omega)) (by omega) ?_
  intro v' w' h1 h2 h3 h4
  refine h v' w' (hnext v' w' h1 h2 ?_) h2 h3
  rcases h4 with h4 | h4
  · exact .inl h4
  · exact .inr ⟨_, h4, by omega⟩
end
end Go.Proofs.Ytdfgnmdofjhnkaa

/- slices.Clone, piece.own, piece.Own -/
namespace Go.Proofs.Ytdfgnmdofjhnkaa
open Go.RowKit

theorem slice_cut1 {α : Type} {r : Rep α} {A : Option Addr} {w : World} {lo hi : Nat} {x : α} {l : List α} {c : Nat} (h : SliceAt r false w lo hi A (x :: l)) (hl : l.length + 1 ≤ c) (hc : c ≤ maxLen) (g o : Nat) (hA : A = some ⟨g, o, none⟩) :
    SliceIs r false w lo hi (.slice (if c = 1 then some ⟨g, o, none⟩ else some ⟨g, o + r.size, none⟩) l.length (c - 1)) l := by
  subst hA
  refine ⟨_, _, rfl, by omega, by omega, ?_⟩
  obtain ⟨cells, h1, h2⟩ := h
  obtain ⟨cs, rest, rfl, h3, h4⟩ := h1
  refine ⟨rest, h4, fun hn => ?_⟩
  obtain ⟨g', o', he, h5, h6⟩ := h2 (by simp)
  injection he with he
  injection he with he1 he2
  subst he1 he2
  rw [if_neg (by omega)]
  refine ⟨g, o + r.size, rfl, h5, fun j u hj => ?_⟩
  have := h6 (r.size + j) u (by rw [List.getElem?_append_right (by rw [r.len h3]; omega), r.len h3, Nat.add_sub_cancel_left]; exact hj)
  rwa [show o + r.size + j = o + (r.size + j) from by omega]

/-- Elements that lead nowhere. -/
def Rep.flat {α : Type} (r : Rep α) : Prop := ∀ {fr w S fr' w' S' cs a}, r.is fr w S cs a → r.is fr' w' S' cs a
theorem flat_int : Rep.int.flat := fun h => h
theorem flat_msg : Rep.msg.flat := fun h => h
theorem Rep.all_flat {α : Type} {r : Rep α} (hf : r.flat) {fr fr' : Bool} {w w' : World} {S S' : Nat → Prop} : ∀ {xs : List α} {cells : List Value}, r.all fr w S cells xs → r.all fr' w' S' cells xs := by
  intro xs
  induction xs with
  | nil => intro cells h; exact h
  | cons x xs ih =>
    intro cells h
    obtain ⟨cs, rest, rfl, h3, h4⟩ := h
    exact ⟨cs, rest, rfl, hf h3, ih h4⟩


set_option maxRecDepth 100000 in
set_option maxHeartbeats 2000000 in
theorem clone_ints (v : Value) (xs : List Int) (w : World) (h : SliceIs Rep.int false w 0 w.heap.size v xs) (hx : xs.length ≤ 1000000) : Calls Try.prog 65 #[v] w
    fun x w' => (∃ v', x = .returned v' ∧ SliceIs Rep.int true w' w.heap.size w'.heap.size v' xs) ∧ Below w.heap.size w w' := by
  obtain ⟨A, c, rfl, hl, hm, hA⟩ := h
  have q : ∀ (w : World) (a : Option Addr) (n c n' c' : Nat), (binOp .eql 22 (.slice a n c) (.slice none n' c')).run Try.prog w = .ok (.bool a.isNone) w := fun w a n c n' c' => Lib.run_eql_slice_nil w _ _ a n c n' c' Try.underlying22
  cases A with
  | none =>
    have hxs : xs = [] := by
      obtain ⟨cells, _, h2⟩ := hA
      rcases Nat.eq_zero_or_pos xs.length with h0 | h0
      · exact List.eq_nil_of_length_eq_zero h0
      · obtain ⟨_, _, h, _⟩ := h2 h0; cases h
    subst hxs
    clear hA
    go_enter Try.func65, Try.ntmps65
    go_wp2_with fail
    go_ret
    exact ⟨⟨_, rfl, SliceIs.none_⟩, Below.refl _ _⟩
  | some a =>
    have hown : (w.alloc (.cells ([] : List Value).toArray 3)).ownsRow w.heap.size 3 Rep.int.size (.slice (some ⟨w.heap.size, 0, none⟩) 0 0) 0 [] := own_lit (size := Rep.int.size) w.heap.size 3 0 [] (by simp) (Nat.le_refl _) (by unfold maxLen; omega)
    have hb0 : Below w.heap.size w (w.alloc (.cells ([] : List Value).toArray 3)) := (Below.refl _ _).alloc (Nat.le_refl _) _
    have hA2 := hA.below hb0 (Nat.le_refl _)
    have HO := Lib.hid hown; clear hown
    have HA := Lib.hid hA2; clear hA2 hA
    go_enter Try.func65, Try.ntmps65
    go_wp2_with (at_builtin; refine wpList_appendS (r := Rep.int) rfl (.tmp 5) (.tmp 6) 22 rfl w.heap.size 3 Try.infoInt Try.underlying22 rfl _ 0 [] rfl HO.out _ _ rfl HA.out (by unfold maxLen; omega) (by omega) (by simp) ?_; intro v1 w1 news hn hown1 hg1 hb1 ha1)
    go_ret
    refine ⟨⟨_, rfl, SliceIs.of_own (r := Rep.int) (base := w.heap.size) (e := 3) (cells := news) (by simpa using hown1) (Rep.all_flat flat_int hn) (Nat.le_refl _) (Nat.le_refl _)⟩, hb0.trans hb1⟩

set_option maxRecDepth 100000 in
set_option maxHeartbeats 2000000 in
theorem clone_msgs (v : Value) (xs : List (Int × Int)) (w : World) (h : SliceIs Rep.msg false w 0 w.heap.size v xs) (hx : xs.length ≤ 1000000) : Calls Try.prog 94 #[v] w
    fun x w' => (∃ v', x = .returned v' ∧ SliceIs Rep.msg true w' w.heap.size w'.heap.size v' xs) ∧ Below w.heap.size w w' := by
  obtain ⟨A, c, rfl, hl, hm, hA⟩ := h
  have q : ∀ (w : World) (a : Option Addr) (n c n' c' : Nat), (binOp .eql 45 (.slice a n c) (.slice none n' c')).run Try.prog w = .ok (.bool a.isNone) w := fun w a n c n' c' => Lib.run_eql_slice_nil w _ _ a n c n' c' Try.underlying45
  cases A with
  | none =>
    have hxs : xs = [] := by
      obtain ⟨cells, _, h2⟩ := hA
      rcases Nat.eq_zero_or_pos xs.length with h0 | h0
      · exact List.eq_nil_of_length_eq_zero h0
      · obtain ⟨_, _, h, _⟩ := h2 h0; cases h
    subst hxs
    clear hA
    go_enter Try.func94, Try.ntmps94
    go_wp2_with fail
    go_ret
    exact ⟨⟨_, rfl, SliceIs.none_⟩, Below.refl _ _⟩
  | some a =>
    have hown : (w.alloc (.cells ([] : List Value).toArray 47)).ownsRow w.heap.size 47 Rep.msg.size (.slice (some ⟨w.heap.size, 0, none⟩) 0 0) 0 [] := own_lit (size := Rep.msg.size) w.heap.size 47 0 [] (by simp) (Nat.le_refl _) (by unfold maxLen; omega)
    have hb0 : Below w.heap.size w (w.alloc (.cells ([] : List Value).toArray 47)) := (Below.refl _ _).alloc (Nat.le_refl _) _
    have hA2 := hA.below hb0 (Nat.le_refl _)
    have HO := Lib.hid hown; clear hown
    have HA := Lib.hid hA2; clear hA2 hA
    go_enter Try.func94, Try.ntmps94
    go_wp2_with (at_builtin; refine wpList_appendS (r := Rep.msg) rfl (.tmp 5) (.tmp 6) 45 rfl w.heap.size 47 Try.infoMsg Try.underlying45 rfl _ 0 [] rfl HO.out _ _ rfl HA.out (by unfold maxLen; omega) (by omega) (by simp) ?_; intro v1 w1 news hn hown1 hg1 hb1 ha1)
    go_ret
    refine ⟨⟨_, rfl, SliceIs.of_own (r := Rep.msg) (base := w.heap.size) (e := 47) (cells := news) (by simpa using hown1) (Rep.all_flat flat_msg hn) (Nat.le_refl _) (Nat.le_refl _)⟩, hb0.trans hb1⟩

/-- Block g holds the lists that are left, a slice of type T. -/
def RdrO {α : Type} (r : Rep α) (T : TypeId) (g : Nat) (w : World) (l : List (List α)) : Prop := ∃ v, w.heap[g]? = some (.cells #[v] T (0, 0)) ∧ SliceIs r.slice false w 0 g v l
theorem RdrO.far {α : Type} {r : Rep α} {T : TypeId} {g : Nat} {w w' : World} {l : List (List α)} (h : RdrO r T g w l) (hb : ∀ b, b ≤ g → w'.heap[b]? = w.heap[b]?) : RdrO r T g w' l := by
  obtain ⟨v, h1, h2⟩ := h
  exact ⟨v, (hb g (Nat.le_refl _)).trans h1, h2.keep fun b _ hb2 => hb b (by omega)⟩


set_option maxRecDepth 100000 in
set_option maxHeartbeats 2000000 in
theorem own1_msgs (g : Nat) (x : List (Int × Int)) (l : List (List (Int × Int))) (w : World) (h : RdrO Rep.msg 23 g w (x :: l)) (hx : x.length ≤ 1000000) : Calls Try.prog 93 #[.pointer (some ⟨g, 0, none⟩)] w
    fun y w' => (∃ v, y = .returned v ∧ SliceIs Rep.msg true w' w.heap.size w'.heap.size v x) ∧ RdrO Rep.msg 23 g w' l ∧ w.grownBy w' (some g) := by
  obtain ⟨v, h1, A, c, rfl, hl, hc, hA⟩ := h
  have c0 := cell_of_one h1
  have f0 := free_of_one h1
  have hlt := lt_of_block h1
  have H1 := Lib.hid h1; clear h1
  obtain ⟨gx, ox, vx, rfl, _, hgx, d0, hvx⟩ := hA.row (k := 0) (x := x) rfl
  rw [Nat.add_zero] at d0
  have hS := slice_cut1 hA (by simpa using hl) hc gx ox rfl
  have hC := clone_msgs vx x w (hvx.widen (Nat.le_refl _) (by omega)) hx
  have HC := Lib.hid hC; clear hC hvx hA
  have hl' : l.length + 1 ≤ c := by simpa using hl
  unfold maxLen at hc
  have key : ∀ (w1 : World) (u : Value), Below w.heap.size w w1 → SliceIs Rep.msg.slice false w 0 g u l → RdrO Rep.msg 23 g (w1.setCell ⟨g, 0, none⟩ u) l ∧ w.grownBy (w1.setCell ⟨g, 0, none⟩ u) (some g) := fun w1 u hb hu =>
    ⟨⟨u, one_setCell ((hb.block g hlt).trans H1.out), (hu.below hb (by omega)).keep fun b _ hb => heap_setCell_other _ _ _ _ (by simp; omega)⟩, grown_trans (grown_of_below hb) (grown_set u)⟩
  have KEY := Lib.hid key; clear key
  have cr : ∀ w1, Below w.heap.size w w1 → w1.cell? ⟨g, 0, none⟩ = some (.slice (some ⟨gx, ox, none⟩) (x :: l).length c) ∧ w1.frozen? ⟨g, 0, none⟩ = false := fun w1 hb => ⟨cell_of_one ((hb.block g hlt).trans H1.out), free_of_one ((hb.block g hlt).trans H1.out)⟩
  have CR := Lib.hid cr; clear cr
  by_cases hc1 : c = 1
  · subst hc1
    obtain rfl : l = [] := List.eq_nil_of_length_eq_zero (by omega)
    rw [if_pos rfl] at hS
    have HS := Lib.hid hS; clear hS
    go_enter Try.func93, Try.ntmps93
    go_wp2_with fail
    refine (HC.out).mono ?_
    rintro e w1 ⟨⟨v1, rfl, hv1⟩, hb1⟩
    obtain ⟨c1, f1⟩ := CR.out w1 hb1
    clear c0 f0
    go_wp2_with fail
    go_ret
    exact ⟨⟨_, rfl, set_slice hv1 (by simpa using hlt) _ |>.widen (Nat.le_refl _) (by simp [World.setCell])⟩, KEY.out w1 _ hb1 HS.out⟩
  · rw [if_neg hc1] at hS
    have HS := Lib.hid hS; clear hS
    go_enter Try.func93, Try.ntmps93
    go_wp2_with fail
    refine (HC.out).mono ?_
    rintro e w1 ⟨⟨v1, rfl, hv1⟩, hb1⟩
    obtain ⟨c1, f1⟩ := CR.out w1 hb1
    clear c0 f0
    go_wp2_with fail
    go_ret
    exact ⟨⟨_, rfl, set_slice hv1 (by simpa using hlt) _ |>.widen (Nat.le_refl _) (by simp [World.setCell])⟩, KEY.out w1 _ hb1 HS.out⟩

set_option maxRecDepth 100000 in
set_option maxHeartbeats 4000000 in
theorem own_msgs_lists (g : Nat) (xs : List (List (Int × Int))) (w : World) (hr : RdrO Rep.msg 23 g w xs) (hlt : g < w.heap.size) (hx : ∀ x ∈ xs, x.length ≤ 1000000) (hn : xs.length ≤ 1000000) :
    Calls Try.prog 49 #[.int .i64 xs.length, .func (.func 93) #[] #[.pointer (some ⟨g, 0, none⟩)]] w fun y w' => (∃ v, y = .returned v ∧ SliceIs Rep.msg.slice true w' w.heap.size w'.heap.size v xs) ∧ w.grownBy w' (some g) := by
  have HX := Lib.hid hx; clear hx
  go_enter Try.func49, Try.ntmps49
  go_wp2_with fail
  go_loopg [5, 7] xs.length (fun k v i wr => ∃ j : Nat, i = .int .i64 (j : Int) ∧ j ≤ xs.length ∧ k = xs.length - j ∧ Acc Rep.msg.slice 45 w.heap.size wr v (xs.take j) ∧ RdrO Rep.msg 23 g wr (xs.drop j) ∧ w.grownBy wr (some g))
  case atStart => exact ⟨0, rfl, by omega, by omega, Acc.nil _ _ _ _, hr, World.grownBy.refl _ _⟩
  case round =>
    clear hr
    obtain ⟨j, rfl, hj, hk, ha, hr, hg⟩ := hrel
    have HK := Lib.hid hk; clear hk
    by_cases hjn : j < xs.length
    · obtain ⟨x, hx⟩ := Pc.get_at hjn
      rw [Pc.drop_at hx] at hr
      have hxl := HX.out x (List.mem_of_getElem? hx)
      have htn := Pc.take_next hx
      have HTN := Lib.hid htn; clear htn
      clear hx
      go_wp2_with fail
      refine (own1_msgs g x _ _ hr hxl).mono ?_
      rintro e w1 ⟨⟨v1, rfl, hv1⟩, hr1, hg1⟩
      obtain ⟨A1, c1, rfl, hl1, hm1, ha1⟩ := hv1
      have hsz := hg.size
      have hsz1 := hg1.size
      go_wp2_with (at_builtin; refine wpList_accB (r := Rep.msg.slice) (xs := xs.take j) (y := x) rfl (.tmp 9) (.tmp 12) 23 rfl w.heap.size 45 Try.infoMsgs Try.underlying23 rfl (by omega) _ rfl ha (fun b h1 h2 => grown_keep hg1 h2 (by omega)) hg1.size hsz 1 _ [.slice A1 x.length c1] rfl (by simp) ⟨_, rfl, A1, c1, rfl, hl1, hm1, ha1⟩ (by simp; omega) ?_; intro v2 w2 hacc2 hgr2 hb2)
      rw [← HTN.out] at hacc2
      go_roundg (xs.length - (j + 1))
      case rel => exact ⟨j + 1, by simp, by omega, rfl, hacc2, hr1.far (fun b hb => hb2.block b (by omega)), ⟨hb2.os.trans (grown_trans hg hg1).os, hb2.tape.trans (grown_trans hg hg1).tape, hb2.output.trans (grown_trans hg hg1).output, Nat.le_trans (grown_trans hg hg1).size hb2.size, fun k hk hne => (hb2.block k (by omega)).trans ((grown_trans hg hg1).block k hk hne)⟩⟩
      case measure => have := HK.out; omega
    · have hs := ha.slice
      rw [List.take_of_length_le (by omega)] at hs
      have HS := Lib.hid hs; clear hs ha hr
      go_wp2_with fail
      go_ret
      exact ⟨⟨_, rfl, HS.out⟩, hg⟩

set_option maxRecDepth 100000 in
set_option maxHeartbeats 4000000 in
theorem own_msgs (v : Value) (xs : List (List (Int × Int))) (w : World) (h : SliceIs Rep.msg.slice false w 0 w.heap.size v xs) (hx : ∀ x ∈ xs, x.length ≤ 1000000) (hn : xs.length ≤ 1000000) : Calls Try.prog 66 #[v] w
    fun y w' => (∃ v', y = .returned v' ∧ SliceIs Rep.msg.slice true w' w.heap.size w'.heap.size v' xs) ∧ Below w.heap.size w w' := by
  have hmf : ∀ (fn : Fn) (first cap : Array Value) (w : World), (Instr.makeFunc fn first cap).run Try.prog w = .ok (.func fn first cap) w := fun _ _ _ _ => rfl
  have hb0 : Below w.heap.size w (w.alloc (.cells #[v] 23)) := (Below.refl _ _).alloc (Nat.le_refl _) _
  have hr : RdrO Rep.msg 23 w.heap.size (w.alloc (.cells #[v] 23)) xs := ⟨v, heap_alloc_new _ _, h.below hb0 (Nat.le_refl _)⟩
  obtain ⟨A, c, rfl, hl, hm, hA⟩ := h
  have HL := Lib.hid (own_msgs_lists w.heap.size xs _ hr (by simp) hx hn)
  clear hr hx hA
  unfold maxLen at hm
  go_enter Try.func66, Try.ntmps66
  go_wp2_with fail
  refine (HL.out).mono ?_
  rintro e w1 ⟨⟨v1, rfl, hv1⟩, hg1⟩
  go_wp2_with fail
  go_ret
  refine ⟨⟨_, rfl, hv1.widen (by simp) (Nat.le_refl _)⟩, hb0.trans ⟨hg1.os, hg1.tape, hg1.output, hg1.size, fun k hk => hg1.block k (by simp; omega) (by intro e; injection e; omega)⟩⟩

set_option maxRecDepth 100000 in
set_option maxHeartbeats 2000000 in
theorem own1_ints (g : Nat) (x : List Int) (l : List (List Int)) (w : World) (h : RdrO Rep.int 24 g w (x :: l)) (hx : x.length ≤ 1000000) : Calls Try.prog 95 #[.pointer (some ⟨g, 0, none⟩)] w
    fun y w' => (∃ v, y = .returned v ∧ SliceIs Rep.int true w' w.heap.size w'.heap.size v x) ∧ RdrO Rep.int 24 g w' l ∧ w.grownBy w' (some g) := by
  obtain ⟨v, h1, A, c, rfl, hl, hc, hA⟩ := h
  have c0 := cell_of_one h1
  have f0 := free_of_one h1
  have hlt := lt_of_block h1
  have H1 := Lib.hid h1; clear h1
  obtain ⟨gx, ox, vx, rfl, _, hgx, d0, hvx⟩ := hA.row (k := 0) (x := x) rfl
  rw [Nat.add_zero] at d0
  have hS := slice_cut1 hA (by simpa using hl) hc gx ox rfl
  have hC := clone_ints vx x w (hvx.widen (Nat.le_refl _) (by omega)) hx
  have HC := Lib.hid hC; clear hC hvx hA
  have hl' : l.length + 1 ≤ c := by simpa using hl
  unfold maxLen at hc
  have key : ∀ (w1 : World) (u : Value), Below w.heap.size w w1 → SliceIs Rep.int.slice false w 0 g u l → RdrO Rep.int 24 g (w1.setCell ⟨g, 0, none⟩ u) l ∧ w.grownBy (w1.setCell ⟨g, 0, none⟩ u) (some g) := fun w1 u hb hu =>
    ⟨⟨u, one_setCell ((hb.block g hlt).trans H1.out), (hu.below hb (by omega)).keep fun b _ hb => heap_setCell_other _ _ _ _ (by simp; omega)⟩, grown_trans (grown_of_below hb) (grown_set u)⟩
  have KEY := Lib.hid key; clear key
  have cr : ∀ w1, Below w.heap.size w w1 → w1.cell? ⟨g, 0, none⟩ = some (.slice (some ⟨gx, ox, none⟩) (x :: l).length c) ∧ w1.frozen? ⟨g, 0, none⟩ = false := fun w1 hb => ⟨cell_of_one ((hb.block g hlt).trans H1.out), free_of_one ((hb.block g hlt).trans H1.out)⟩
  have CR := Lib.hid cr; clear cr
  by_cases hc1 : c = 1
  · subst hc1
    obtain rfl : l = [] := List.eq_nil_of_length_eq_zero (by omega)
    rw [if_pos rfl] at hS
    have HS := Lib.hid hS; clear hS
    go_enter Try.func95, Try.ntmps95
    go_wp2_with fail
    refine (HC.out).mono ?_
    rintro e w1 ⟨⟨v1, rfl, hv1⟩, hb1⟩
    obtain ⟨c1, f1⟩ := CR.out w1 hb1
    clear c0 f0
    go_wp2_with fail
    go_ret
    exact ⟨⟨_, rfl, set_slice hv1 (by simpa using hlt) _ |>.widen (Nat.le_refl _) (by simp [World.setCell])⟩, KEY.out w1 _ hb1 HS.out⟩
  · rw [if_neg hc1] at hS
    have HS := Lib.hid hS; clear hS
    go_enter Try.func95, Try.ntmps95
    go_wp2_with fail
    refine (HC.out).mono ?_
    rintro e w1 ⟨⟨v1, rfl, hv1⟩, hb1⟩
    obtain ⟨c1, f1⟩ := CR.out w1 hb1
    clear c0 f0
    go_wp2_with fail
    go_ret
    exact ⟨⟨_, rfl, set_slice hv1 (by simpa using hlt) _ |>.widen (Nat.le_refl _) (by simp [World.setCell])⟩, KEY.out w1 _ hb1 HS.out⟩

set_option maxRecDepth 100000 in
set_option maxHeartbeats 4000000 in
theorem own_ints_lists (g : Nat) (xs : List (List Int)) (w : World) (hr : RdrO Rep.int 24 g w xs) (hlt : g < w.heap.size) (hx : ∀ x ∈ xs, x.length ≤ 1000000) (hn : xs.length ≤ 1000000) :
    Calls Try.prog 53 #[.int .i64 xs.length, .func (.func 95) #[] #[.pointer (some ⟨g, 0, none⟩)]] w fun y w' => (∃ v, y = .returned v ∧ SliceIs Rep.int.slice true w' w.heap.size w'.heap.size v xs) ∧ w.grownBy w' (some g) := by
  have HX := Lib.hid hx; clear hx
  go_enter Try.func53, Try.ntmps53
  go_wp2_with fail
  go_loopg [5, 7] xs.length (fun k v i wr => ∃ j : Nat, i = .int .i64 (j : Int) ∧ j ≤ xs.length ∧ k = xs.length - j ∧ Acc Rep.int.slice 22 w.heap.size wr v (xs.take j) ∧ RdrO Rep.int 24 g wr (xs.drop j) ∧ w.grownBy wr (some g))
  case atStart => exact ⟨0, rfl, by omega, by omega, Acc.nil _ _ _ _, hr, World.grownBy.refl _ _⟩
  case round =>
    clear hr
    obtain ⟨j, rfl, hj, hk, ha, hr, hg⟩ := hrel
    have HK := Lib.hid hk; clear hk
    by_cases hjn : j < xs.length
    · obtain ⟨x, hx⟩ := Pc.get_at hjn
      rw [Pc.drop_at hx] at hr
      have hxl := HX.out x (List.mem_of_getElem? hx)
      have htn := Pc.take_next hx
      have HTN := Lib.hid htn; clear htn
      clear hx
      go_wp2_with fail
      refine (own1_ints g x _ _ hr hxl).mono ?_
      rintro e w1 ⟨⟨v1, rfl, hv1⟩, hr1, hg1⟩
      obtain ⟨A1, c1, rfl, hl1, hm1, ha1⟩ := hv1
      have hsz := hg.size
      have hsz1 := hg1.size
      go_wp2_with (at_builtin; refine wpList_accB (r := Rep.int.slice) (xs := xs.take j) (y := x) rfl (.tmp 9) (.tmp 12) 24 rfl w.heap.size 22 Try.infoInts Try.underlying24 rfl (by omega) _ rfl ha (fun b h1 h2 => grown_keep hg1 h2 (by omega)) hg1.size hsz 1 _ [.slice A1 x.length c1] rfl (by simp) ⟨_, rfl, A1, c1, rfl, hl1, hm1, ha1⟩ (by simp; omega) ?_; intro v2 w2 hacc2 hgr2 hb2)
      rw [← HTN.out] at hacc2
      go_roundg (xs.length - (j + 1))
      case rel => exact ⟨j + 1, by simp, by omega, rfl, hacc2, hr1.far (fun b hb => hb2.block b (by omega)), ⟨hb2.os.trans (grown_trans hg hg1).os, hb2.tape.trans (grown_trans hg hg1).tape, hb2.output.trans (grown_trans hg hg1).output, Nat.le_trans (grown_trans hg hg1).size hb2.size, fun k hk hne => (hb2.block k (by omega)).trans ((grown_trans hg hg1).block k hk hne)⟩⟩
      case measure => have := HK.out; omega
    · have hs := ha.slice
      rw [List.take_of_length_le (by omega)] at hs
      have HS := Lib.hid hs; clear hs ha hr
      go_wp2_with fail
      go_ret
      exact ⟨⟨_, rfl, HS.out⟩, hg⟩

set_option maxRecDepth 100000 in
set_option maxHeartbeats 4000000 in
theorem own_ints (v : Value) (xs : List (List Int)) (w : World) (h : SliceIs Rep.int.slice false w 0 w.heap.size v xs) (hx : ∀ x ∈ xs, x.length ≤ 1000000) (hn : xs.length ≤ 1000000) : Calls Try.prog 67 #[v] w
    fun y w' => (∃ v', y = .returned v' ∧ SliceIs Rep.int.slice true w' w.heap.size w'.heap.size v' xs) ∧ Below w.heap.size w w' := by
  have hmf : ∀ (fn : Fn) (first cap : Array Value) (w : World), (Instr.makeFunc fn first cap).run Try.prog w = .ok (.func fn first cap) w := fun _ _ _ _ => rfl
  have hb0 : Below w.heap.size w (w.alloc (.cells #[v] 24)) := (Below.refl _ _).alloc (Nat.le_refl _) _
  have hr : RdrO Rep.int 24 w.heap.size (w.alloc (.cells #[v] 24)) xs := ⟨v, heap_alloc_new _ _, h.below hb0 (Nat.le_refl _)⟩
  obtain ⟨A, c, rfl, hl, hm, hA⟩ := h
  have HL := Lib.hid (own_ints_lists w.heap.size xs _ hr (by simp) hx hn)
  clear hr hx hA
  unfold maxLen at hm
  go_enter Try.func67, Try.ntmps67
  go_wp2_with fail
  refine (HL.out).mono ?_
  rintro e w1 ⟨⟨v1, rfl, hv1⟩, hg1⟩
  go_wp2_with fail
  go_ret
  refine ⟨⟨_, rfl, hv1.widen (by simp) (Nat.le_refl _)⟩, hb0.trans ⟨hg1.os, hg1.tape, hg1.output, hg1.size, fun k hk => hg1.block k (by simp; omega) (by intro e; injection e; omega)⟩⟩

namespace Pc
/-- Lists that are not too long to be copied. -/
def sized (p : Piece) : Prop := p.sent.length ≤ 1000000 ∧ p.inn.length ≤ 1000000 ∧ p.out.length ≤ 1000000 ∧ (∀ x ∈ p.inn, x.length ≤ 1000000) ∧ (∀ x ∈ p.out, x.length ≤ 1000000)
end Pc

set_option maxRecDepth 100000 in
set_option maxHeartbeats 4000000 in
theorem Own_any (v : Value) (p : Pc.Piece) (w : World) (h : PieceIs false w 0 w.heap.size v p) (hp : Pc.sized p) : Calls Try.prog 25 #[v] w
    fun y w' => (∃ v', y = .returned v' ∧ PieceIs true w' w.heap.size w'.heap.size v' p) ∧ Below w.heap.size w w' := by
  obtain ⟨n, s, t, xs, ms, os⟩ := p
  obtain ⟨a, b, c, rfl, h1, h2, h3⟩ := h
  obtain ⟨p1, p2, p3, p4, p5⟩ := hp
  dsimp only at h1 h2 h3 p1 p2 p3 p4 p5
  obtain ⟨W, hW⟩ : ∃ W, W = (w.alloc (.cells #[.int .i64 n, .int .i64 s, .int .i64 t, a, b, c] 26)).alloc (.cells #[.int .i64 0, .int .i64 0, .int .i64 0, .slice none 0 0, .slice none 0 0, .slice none 0 0] 26) := ⟨_, rfl⟩
  have hb0 : Below w.heap.size w W := by rw [hW]; exact below_2 _ _ _
  have hsz : W.heap.size = w.heap.size + 1 + 1 := by rw [hW]; simp
  have hbox : W.heap[w.heap.size]? = some (.cells #[.int .i64 n, .int .i64 s, .int .i64 t, a, b, c] 26 (0, 0)) := by rw [hW, heap_alloc_old _ _ (by simp)]; exact heap_alloc_new _ _
  have hres : W.heap[w.heap.size + 1]? = some (.cells #[.int .i64 0, .int .i64 0, .int .i64 0, .slice none 0 0, .slice none 0 0, .slice none 0 0] 26 (0, 0)) := by
    rw [hW]; have := heap_alloc_new (w.alloc (.cells #[.int .i64 n, .int .i64 s, .int .i64 t, a, b, c] 26)) (.cells #[.int .i64 0, .int .i64 0, .int .i64 0, .slice none 0 0, .slice none 0 0, .slice none 0 0] 26); simpa using this
  have hBd : Below W.heap.size W W.drew := (Below.refl _ _).drew
  have hS1 : ∀ w', Below W.heap.size W w' → SliceIs Rep.int false w' 0 w'.heap.size a xs := fun w' hb => ((h1.below hb0 (Nat.le_refl _)).below hb (by omega)).widen (Nat.le_refl _) (by have := hb.size; omega)
  have hS2 : ∀ w', Below W.heap.size W w' → SliceIs Rep.msg.slice false w' 0 w'.heap.size b ms := fun w' hb => ((h2.below hb0 (Nat.le_refl _)).below hb (by omega)).widen (Nat.le_refl _) (by have := hb.size; omega)
  have hS3 : ∀ w', Below W.heap.size W w' → SliceIs Rep.int.slice false w' 0 w'.heap.size c os := fun w' hb => ((h3.below hb0 (Nat.le_refl _)).below hb (by omega)).widen (Nat.le_refl _) (by have := hb.size; omega)
  have hK : ∀ w', Below W.heap.size W w' → _ := fun w' hb => six_cells ((hb.block _ (by omega)).trans hbox)
  have hR : ∀ w', Below W.heap.size W w' → _ := fun w' hb => (hb.block _ (by omega)).trans hres
  have HS1 := Lib.hid hS1; clear hS1
  have HS2 := Lib.hid hS2; clear hS2
  have HS3 := Lib.hid hS3; clear hS3
  have HK := Lib.hid hK; clear hK
  have HR := Lib.hid hR; clear hR hbox hres
  have HP4 := Lib.hid p4; clear p4
  have HP5 := Lib.hid p5; clear p5
  have HW := Lib.hid hW; clear hW h1 h2 h3
  go_enter Try.func25, Try.ntmps25
  go_wp2_with fail
  rw [← HW.out]
  obtain ⟨k0, k1, k2, k3, k4, k5⟩ := HK.out _ (Below.refl _ _)
  go_region_held3 (fun w' => w'.cell? ⟨w.heap.size, 0, none⟩ = some (.int .i64 n) ∧ w'.cell? ⟨w.heap.size, 1, none⟩ = some (.int .i64 s) ∧ w'.cell? ⟨w.heap.size, 2, none⟩ = some (.int .i64 t) ∧ w'.cell? ⟨w.heap.size, 3, none⟩ = some a ∧ w'.cell? ⟨w.heap.size, 4, none⟩ = some b ∧ w'.cell? ⟨w.heap.size, 5, none⟩ = some c) (first | (refine ⟨?_, ?_, ?_, ?_, ?_, ?_⟩ <;> with_reducible assumption) | go_keep) (first | (go_at_call 65; refine (clone_ints _ xs _ (HS1.out _ hBd) p1).mono ?_; rintro e wa ⟨⟨v1, rfl, hv1⟩, hb1⟩; have hB1 := hBd.trans (hb1.mono hBd.size); obtain ⟨k0, k1, k2, k3, k4, k5⟩ := HK.out _ hB1; have hv1' := hv1; obtain ⟨A1, q1, rfl, _⟩ := hv1') | (go_at_call 66; refine (own_msgs _ ms _ (HS2.out _ hB1) HP4.out p2).mono ?_; rintro e wb ⟨⟨v2, rfl, hv2⟩, hb2⟩; have hB2 := hB1.trans (hb2.mono hB1.size); obtain ⟨k0, k1, k2, k3, k4, k5⟩ := HK.out _ hB2; have hv2' := hv2; obtain ⟨A2, q2, rfl, _⟩ := hv2') | (go_at_call 67; refine (own_ints _ os _ (HS3.out _ hB2) HP5.out p3).mono ?_; rintro e wc ⟨⟨v3, rfl, hv3⟩, hb3⟩; have hB3 := hB2.trans (hb3.mono hB2.size); obtain ⟨k0, k1, k2, k3, k4, k5⟩ := HK.out _ hB3; have hv3' := hv3; obtain ⟨A3, q3, rfl, _⟩ := hv3'; have hrs := HR.out _ hB3; obtain ⟨c0, c1, c2, c3, c4, c5⟩ := six_cells hrs; obtain ⟨f0, f1, f2, f3, f4, f5⟩ := six_free hrs; have HRS := Lib.hid hrs; clear hrs))
  go_wp2_with fail
  have r := six_set HRS.out (.int .i64 n) (.int .i64 s) (.int .i64 t) (.slice A1 xs.length q1) (.slice A2 ms.length q2) (.slice A3 os.length q3)
  obtain ⟨g0, g1, g2, g3, g4, g5⟩ := six_cells r
  have hk := six_keeps (w := wc) (w0 := wc) (gp := w.heap.size + 1) (R := w.heap.size + 1) ⟨Nat.le_refl _, fun _ _ _ => rfl⟩ (Nat.le_refl _) (.int .i64 n) (.int .i64 s) (.int .i64 t) (.slice A1 xs.length q1) (.slice A2 ms.length q2) (.slice A3 os.length q3)
  have hbf := six_below (hb0.trans (hB3.mono (by omega))) (R := w.heap.size + 1) (by omega) (.int .i64 n) (.int .i64 s) (.int .i64 t) (.slice A1 xs.length q1) (.slice A2 ms.length q2) (.slice A3 os.length q3)
  have z1 := hBd.size
  have z2 := hb1.size
  have z3 := hb2.size
  have z4 := hb3.size
  have zd : W.drew.heap.size = W.heap.size := rfl
  refine bodyPost_ret (v := .agg #[.int .i64 n, .int .i64 s, .int .i64 t, .slice A1 xs.length q1, .slice A2 ms.length q2, .slice A3 os.length q3]) (by simp [results, Try.results25, go_sem, g0, g1, g2, g3, g4, g5]) rfl ⟨⟨_, rfl, _, _, _, rfl, ?_, ?_, ?_⟩, hbf⟩
  · exact (((hv1.below hb2 (Nat.le_refl _)).below hb3 z3).keep fun b h1 h2 => hk.2 b (by omega) (by omega)).widen (by omega) (Nat.le_trans (by omega) hk.1)
  · exact ((hv2.below hb3 (Nat.le_refl _)).keep fun b h1 h2 => hk.2 b (by omega) (by omega)).widen (by omega) (Nat.le_trans (by omega) hk.1)
  · exact (hv3.keep fun b h1 h2 => hk.2 b (by omega) (by omega)).widen (by omega) hk.1
end Go.Proofs.Ytdfgnmdofjhnkaa

/- The document's reader: (*Reader).next -/
namespace Go.Proofs.Ytdfgnmdofjhnkaa
open Go.RowKit

/-- Block g is a reader: 'l' is what is left; at most 'm' were read. -/
def RN (g lo : Nat) (w : World) (l : List Int) (m : Nat) : Prop :=
  ∃ (A : Option Addr) (c : Nat) (L : List Int) (at_ : Nat), w.heap[g]? = some (.cells #[.slice A L.length c, .int .i64 at_] 94 (0, 0)) ∧ L.length ≤ c ∧ c ≤ maxLen ∧ SliceAt Rep.int false w lo g A L ∧ l = L.drop at_ ∧ at_ ≤ m

theorem RN.far {g lo m : Nat} {w w' : World} {l : List Int} (h : RN g lo w l m) (hb : ∀ b, b ≤ g → w'.heap[b]? = w.heap[b]?) : RN g lo w' l m := by
  obtain ⟨A, c, L, at_, h1, h2, h3, h4, h5⟩ := h
  exact ⟨A, c, L, at_, (hb g (Nat.le_refl _)).trans h1, h2, h3, h4.keep fun b _ hb2 => hb b (by omega), h5⟩
theorem RN.lt {g lo m : Nat} {w : World} {l : List Int} (h : RN g lo w l m) : g < w.heap.size := by
  obtain ⟨A, c, L, at_, h1, _⟩ := h; exact lt_of_block h1

theorem grown_seti {w : World} (g i : Nat) (u : Value) : w.grownBy (w.setCell ⟨g, i, none⟩ u) (some g) :=
  ⟨rfl, rfl, rfl, by simp [World.setCell], fun k hk hne => heap_setCell_other _ _ _ _ (by rintro rfl; exact hne rfl)⟩
theorem grown_drewN {w0 w : World} {g : Option Nat} (h : w0.grownBy w g) (n : Nat) : w0.grownBy (w.drewN n) g := ⟨h.os, h.tape, h.output, h.size, h.block⟩
theorem RN.drewN {g lo m : Nat} {w : World} {l : List Int} (h : RN g lo w l m) (n : Nat) : RN g lo (w.drewN n) l m := h.far fun _ _ => rfl

set_option maxRecDepth 100000 in
set_option maxHeartbeats 2000000 in
theorem rnext_any (g lo m : Nat) (l : List Int) (w : World) (h : RN g lo w l m) (hm : m ≤ 1000000) : Calls Try.prog 55 #[.pointer (some ⟨g, 0, none⟩)] w
    fun x w' => x = .returned (.int .i64 (Pc.nx l).1) ∧ RN g lo w' (Pc.nx l).2 (m + 1) ∧ w.grownBy w' (some g) := by
  obtain ⟨A, c, L, at_, h1, h2, h3, h4, rfl, h5⟩ := h
  have c0 := blk_cell h1 0
  have c1 := blk_cell h1 1
  have f1 : w.frozen? ⟨g, 1, none⟩ = false := by simp [World.frozen?, h1]
  have r := blk_set h1 1 (.int .i64 ((at_ : Int) + 1))
  have d0 := blk_cell r 0
  have d1 := blk_cell r 1
  simp at c0 c1 d0 d1
  have hfin : RN g lo (w.setCell ⟨g, 1, none⟩ (.int .i64 ((at_ : Int) + 1))) (L.drop (at_ + 1)) (m + 1) :=
    ⟨A, c, L, at_ + 1, by rw [r]; simp, h2, h3, h4.keep fun b _ hb => heap_setCell_other _ _ _ _ (by simp; omega), rfl, by omega⟩
  have hgr : w.grownBy (w.setCell ⟨g, 1, none⟩ (.int .i64 ((at_ : Int) + 1))) (some g) := grown_seti g 1 _
  have HF := Lib.hid hfin; clear hfin r h1
  unfold maxLen at h3
  by_cases hlt : at_ < L.length
  · obtain ⟨x, hx⟩ := Pc.get_at hlt
    have e := Pc.drop_at hx
    rw [e]
    obtain ⟨gx, ox, rfl, _, hgx, cx⟩ := h4.int hx
    have E := Lib.hid e; clear e hx h4
    go_enter Try.func55, Try.ntmps55
    go_wp2_with fail
    go_quiet (fail)
    go_wp2_with fail
    go_quiet (fail)
    go_wp2_with fail
    go_ret
    exact ⟨rfl, (HF.out.drewN _).drewN _, grown_drewN (grown_drewN hgr _) _⟩
  · have e : L.drop at_ = [] := List.drop_eq_nil_of_le (by omega)
    have e2 : L.drop (at_ + 1) = [] := List.drop_eq_nil_of_le (by omega)
    rw [e]
    rw [e2] at HF
    clear e e2 h4
    go_enter Try.func55, Try.ntmps55
    go_wp2_with fail
    go_quiet (fail)
    go_wp2_with fail
    go_ret
    exact ⟨rfl, HF.out.drewN _, grown_drewN hgr _⟩
end Go.Proofs.Ytdfgnmdofjhnkaa

/- The document's Right, for pieces. -/
namespace Go.Proofs.Ytdfgnmdofjhnkaa
open Go.RowKit

set_option maxRecDepth 100000 in
set_option maxHeartbeats 4000000 in
theorem rright_head (v : Value) (p : Pc.Piece) (w : World) (h : PieceIs false w 0 w.heap.size v p) (hh : Pc.okHead p = false) : Calls Try.prog 22 #[v] w
    fun x w' => x = .returned (.bool (Pc.right p)) ∧ Below w.heap.size w w' := by
  obtain ⟨n, s, t, xs, ms, os⟩ := p
  obtain ⟨a, b, c, rfl, ⟨A1, c1, rfl, l1, m1, h1⟩, ⟨A2, c2, rfl, l2, m2, h2⟩, ⟨A3, c3, rfl, l3, m3, h3⟩⟩ := h
  dsimp only at l1 l2 l3 h1 h2 h3 ⊢
  have e : Pc.right ⟨n, s, t, xs, ms, os⟩ = false := by unfold Pc.right; rw [hh]; rfl
  rw [e]
  unfold Pc.okHead at hh
  have hh' := of_decide_eq_false hh
  dsimp only at hh'
  clear hh e h1 h2 h3
  unfold maxLen at m1 m2 m3
  by_cases q0 : n < 0
  · clear hh'
    go_enter Try.func22, Try.ntmps22
    go_wp2_with fail
    go_ret
    exact ⟨rfl, (Below.refl _ _).alloc (Nat.le_refl _) _⟩
  ·
    by_cases q1 : 5 < n
    · clear hh'
      go_enter Try.func22, Try.ntmps22
      go_wp2_with fail
      go_ret
      exact ⟨rfl, (Below.refl _ _).alloc (Nat.le_refl _) _⟩
    ·
      by_cases q2 : s < 0
      · clear hh'
        go_enter Try.func22, Try.ntmps22
        go_wp2_with fail
        go_ret
        exact ⟨rfl, (Below.refl _ _).alloc (Nat.le_refl _) _⟩
      ·
        by_cases q3 : 7 < s
        · clear hh'
          go_enter Try.func22, Try.ntmps22
          go_wp2_with fail
          go_ret
          exact ⟨rfl, (Below.refl _ _).alloc (Nat.le_refl _) _⟩
        ·
          by_cases q4 : t < 0
          · clear hh'
            go_enter Try.func22, Try.ntmps22
            go_wp2_with fail
            go_ret
            exact ⟨rfl, (Below.refl _ _).alloc (Nat.le_refl _) _⟩
          ·
            by_cases q5 : 2147483647 < t
            · clear hh'
              go_enter Try.func22, Try.ntmps22
              go_wp2_with fail
              go_ret
              exact ⟨rfl, (Below.refl _ _).alloc (Nat.le_refl _) _⟩
            ·
              by_cases q6 : 5 < xs.length
              · clear hh'
                go_enter Try.func22, Try.ntmps22
                go_wp2_with fail
                go_ret
                exact ⟨rfl, (Below.refl _ _).alloc (Nat.le_refl _) _⟩
              ·
                by_cases q7 : 5 < ms.length
                · clear hh'
                  go_enter Try.func22, Try.ntmps22
                  go_wp2_with fail
                  go_ret
                  exact ⟨rfl, (Below.refl _ _).alloc (Nat.le_refl _) _⟩
                ·
                  have q8 : 5 < os.length := by omega
                  clear hh'
                  go_enter Try.func22, Try.ntmps22
                  go_wp2_with fail
                  go_ret
                  exact ⟨rfl, (Below.refl _ _).alloc (Nat.le_refl _) _⟩

set_option maxRecDepth 100000 in
set_option maxHeartbeats 8000000 in
theorem rright_tail (v : Value) (p : Pc.Piece) (w : World) (h : PieceIs false w 0 w.heap.size v p) (hh : Pc.okHead p = true) : Calls Try.prog 22 #[v] w
    fun x w' => x = .returned (.bool (Pc.right p)) ∧ Below w.heap.size w w' := by
  obtain ⟨n, s, t, xs, ms, os⟩ := p
  obtain ⟨a, b, c, rfl, ⟨A1, c1, rfl, l1, m1, h1⟩, ⟨A2, c2, rfl, l2, m2, h2⟩, ⟨A3, c3, rfl, l3, m3, h3⟩⟩ := h
  dsimp only at l1 l2 l3 h1 h2 h3 ⊢
  have e : Pc.right ⟨n, s, t, xs, ms, os⟩ = (xs.all (fun n => Pc.within n 0 500) && (ms.all (Pc.rising 0) && os.all Pc.okOut)) := by unfold Pc.right; rw [hh]; rfl
  unfold Pc.okHead at hh
  have hh' := of_decide_eq_true hh
  dsimp only at hh'
  clear hh
  obtain ⟨⟨q1, q1'⟩, ⟨q2, q2'⟩, ⟨q3, q3'⟩, q4, q5, q6⟩ := hh'
  generalize hr : Pc.right ⟨n, s, t, xs, ms, os⟩ = r at e ⊢
  have HE := Lib.hid e; clear e hr
  have hb0 : Below w.heap.size w (w.alloc (.cells #[.int .i64 n, .int .i64 s, .int .i64 t, .slice A1 xs.length c1, .slice A2 ms.length c2, .slice A3 os.length c3] 32)) := (Below.refl _ _).alloc (Nat.le_refl _) _
  unfold maxLen at m1 m2 m3
  go_enter Try.func22, Try.ntmps22
  go_wp2_with fail
  generalize hW : w.alloc (.cells #[.int .i64 n, .int .i64 s, .int .i64 t, .slice A1 xs.length c1, .slice A2 ms.length c2, .slice A3 os.length c3] 32) = W at hb0
  have hsz : W.heap.size = w.heap.size + 1 := by rw [← hW]; simp
  have k3 : W.cell? ⟨w.heap.size, 3, none⟩ = some (.slice A1 xs.length c1) := by rw [← hW]; simp [go_sem]
  have k4 : W.cell? ⟨w.heap.size, 4, none⟩ = some (.slice A2 ms.length c2) := by rw [← hW]; simp [go_sem]
  have k5 : W.cell? ⟨w.heap.size, 5, none⟩ = some (.slice A3 os.length c3) := by rw [← hW]; simp [go_sem]
  clear hW
  replace h1 := h1.below hb0 (Nat.le_refl _)
  replace h2 := h2.below hb0 (Nat.le_refl _)
  replace h3 := h3.below hb0 (Nat.le_refl _)
  have HSZ := Lib.hid hsz; clear hsz
  have HK3 := Lib.hid k3; clear k3
  have HK4 := Lib.hid k4; clear k4
  have HK5 := Lib.hid k5; clear k5
  go_loopg [3] xs.length (fun k i wr => PrR Int (fun n => Pc.within n 0 500) xs W k i wr)
  case atStart => exact ⟨0, rfl, by omega, by omega, Pc.good_zero _ _, Below.refl _ _⟩
  case round =>
    obtain ⟨j, rfl, hj, hk, hr, hb⟩ := hrel
    have HR := Lib.hid hr; clear hr
    have HK := Lib.hid hk; clear hk
    have k3 := (hb.cell (p := ⟨w.heap.size, 3, none⟩) (by have := HSZ.out; simp; omega)).trans HK3.out
    by_cases hlt : j < xs.length
    · obtain ⟨x, hx⟩ := Pc.get_at hlt
      obtain ⟨g, o, rfl, _, hg, c0⟩ := (h1.below hb (by have := HSZ.out; omega)).int hx
      have HX := Lib.hid hx; clear hx
      clear h1 h2 h3
      by_cases q : x < 0
      · go_wp2_with fail
        go_ret
        exact ⟨by rw [HE.out, Pc.bad_all (b := fun n => Pc.within n 0 500) HX.out (Pc.within_no (by omega))]; rfl, hb0.trans (hb.mono (by have := HSZ.out; omega))⟩
      · by_cases q' : 500 < x
        · go_wp2_with fail
          go_ret
          exact ⟨by rw [HE.out, Pc.bad_all (b := fun n => Pc.within n 0 500) HX.out (Pc.within_no (by omega))]; rfl, hb0.trans (hb.mono (by have := HSZ.out; omega))⟩
        · go_wp2_with fail
          go_roundg (xs.length - (j + 1))
          case rel => exact ⟨j + 1, by simp, by omega, rfl, Pc.good_next HR.out HX.out (Pc.within_yes (by omega)), hb⟩
          case measure => have := HK.out; omega
    · have hj2 : j = xs.length := by omega
      subst hj2
      have e1 := Pc.good_all HR.out
      rw [e1, Bool.true_and] at HE
      clear HR e1 HK hlt hj h1
      go_wp2_with fail
      clear k3
      go_loopg [4, 5, 6, 7] ms.length (fun k i _ _ _ wr => PrR (List (Int × Int)) (Pc.rising 0) ms W k i wr)
      case atStart => exact ⟨0, rfl, by omega, by omega, Pc.good_zero _ _, hb⟩
      case round =>
        clear hb
        obtain ⟨j, rfl, hj, hk, hr, hb⟩ := hrel
        have HR := Lib.hid hr; clear hr
        have HK := Lib.hid hk; clear hk
        have k4 := (hb.cell (p := ⟨w.heap.size, 4, none⟩) (by have := HSZ.out; simp; omega)).trans HK4.out
        by_cases hlt : j < ms.length
        · obtain ⟨x, hx⟩ := Pc.get_at hlt
          obtain ⟨g, o, v, rfl, _, hg, c0, ⟨Ax, cx, rfl, lx, mx, hxa⟩⟩ := (h2.below hb (by have := HSZ.out; omega)).row hx
          have HX := Lib.hid hx; clear hx
          clear h2 h3
          unfold maxLen at mx
          go_wp2_with fail
          have KK4 := Lib.hid k4; clear k4
          have CC0 := Lib.hid c0; clear c0
          have hww : w.heap.size < wr.heap.size := by have := hb.size; have := HSZ.out; omega
          obtain ⟨wo, rfl⟩ : ∃ wo : World, wo = wr := ⟨_, rfl⟩
          go_loopg [5, 6, 7] x.length (fun k last i _ wr => ∃ (j2 : Nat) (lv : Int), i = .int .i64 (j2 : Int) ∧ j2 ≤ x.length ∧ k = x.length - j2 ∧ last = .int .i64 lv ∧ Pc.rising 0 x = Pc.rising lv (x.drop j2) ∧ Below wo.heap.size wo wr)
          case atStart => exact ⟨0, 0, rfl, by omega, by omega, rfl, rfl, Below.refl _ _⟩
          case round =>
            obtain ⟨j2, lv, rfl, hj2, hk2, rfl, hr2, hb2⟩ := hrel
            have HR2 := Lib.hid hr2; clear hr2
            have HK2 := Lib.hid hk2; clear hk2
            have k4 := (hb2.cell (p := ⟨w.heap.size, 4, none⟩) (by simpa using hww)).trans KK4.out
            have c0 := (hb2.cell (p := ⟨g, o + j, none⟩) (by simp; omega)).trans CC0.out
            have hbb := hb.trans (hb2.mono hb.size)
            by_cases hlt2 : j2 < x.length
            · obtain ⟨⟨sq, lt⟩, hm⟩ := Pc.get_at hlt2
              obtain ⟨gx, ox, rfl, _, hgx, d0, d1⟩ := (hxa.below hb2 (by omega)).msg hm
              rw [Pc.drop_at hm] at HR2
              clear hm hxa
              dsimp only at d0 d1
              have hno : ¬ (lv < sq ∧ sq ≤ 500 ∧ 0 ≤ lt ∧ lt ≤ 3) → r = false := fun h => by rw [HE.out, Pc.bad_all HX.out (by rw [HR2.out, Pc.rising_no h])]; rfl
              have HNO := Lib.hid hno; clear hno
              by_cases p1 : lv < sq
              · by_cases p2 : sq ≤ 500
                · by_cases p3 : 0 ≤ lt
                  · by_cases p4 : lt ≤ 3
                    · go_wp2_with fail
                      go_roundg (x.length - (j2 + 1))
                      case rel => exact ⟨j2 + 1, sq, by simp, by omega, rfl, rfl, by rw [HR2.out, Pc.rising_yes ⟨p1, p2, p3, p4⟩], hb2.alloc hb2.size _⟩
                      case measure => have := HK2.out; omega
                    · go_wp2_with fail
                      go_ret
                      exact ⟨by rw [HNO.out (by omega)]; rfl, (hb0.trans (hbb.mono (by have := HSZ.out; omega))).alloc (by have := hbb.size; have := HSZ.out; omega) _⟩
                  · go_wp2_with fail
                    go_ret
                    exact ⟨by rw [HNO.out (by omega)]; rfl, (hb0.trans (hbb.mono (by have := HSZ.out; omega))).alloc (by have := hbb.size; have := HSZ.out; omega) _⟩
                · go_wp2_with fail
                  go_ret
                  exact ⟨by rw [HNO.out (by omega)]; rfl, (hb0.trans (hbb.mono (by have := HSZ.out; omega))).alloc (by have := hbb.size; have := HSZ.out; omega) _⟩
              · go_wp2_with fail
                go_ret
                exact ⟨by rw [HNO.out (by omega)]; rfl, (hb0.trans (hbb.mono (by have := HSZ.out; omega))).alloc (by have := hbb.size; have := HSZ.out; omega) _⟩
            · have e2 : Pc.rising 0 x = true := by rw [HR2.out, List.drop_eq_nil_of_le (by omega)]; rfl
              have E2 := Lib.hid e2; clear e2
              go_wp2_with fail
              go_roundg (ms.length - (j + 1))
              case rel => exact ⟨j + 1, by simp, by omega, rfl, Pc.good_next HR.out HX.out E2.out, hbb⟩
              case measure => have := HK.out; omega
        · have hj2 : j = ms.length := by omega
          subst hj2
          have e1 := Pc.good_all HR.out
          rw [e1, Bool.true_and] at HE
          clear HR e1 HK hlt hj h2
          go_wp2_with fail
          clear k4
          go_loopg [8, 9] os.length (fun k i _ wr => PrR (List Int) Pc.okOut os W k i wr)
          case atStart => exact ⟨0, rfl, by omega, by omega, Pc.good_zero _ _, hb⟩
          case round =>
            clear hb
            obtain ⟨j, rfl, hj, hk, hr, hb⟩ := hrel
            have HR := Lib.hid hr; clear hr
            have HK := Lib.hid hk; clear hk
            have k5 := (hb.cell (p := ⟨w.heap.size, 5, none⟩) (by have := HSZ.out; simp; omega)).trans HK5.out
            by_cases hlt : j < os.length
            · obtain ⟨x, hx⟩ := Pc.get_at hlt
              obtain ⟨g, o, v, rfl, _, hg, c0, ⟨Ax, cx, rfl, lx, mx, hxa⟩⟩ := (h3.below hb (by have := HSZ.out; omega)).row hx
              have HX := Lib.hid hx; clear hx
              clear h3
              unfold maxLen at mx
              by_cases q : x.length ≤ 500
              · go_wp2_with fail
                have KK5 := Lib.hid k5; clear k5
                have CC0 := Lib.hid c0; clear c0
                have hww : w.heap.size < wr.heap.size := by have := hb.size; have := HSZ.out; omega
                obtain ⟨wo, rfl⟩ : ∃ wo : World, wo = wr := ⟨_, rfl⟩
                go_loopg [9] x.length (fun k i wr => PrR Int (fun n => Pc.within n 0 3) x wo k i wr)
                case atStart => exact ⟨0, rfl, by omega, by omega, Pc.good_zero _ _, Below.refl _ _⟩
                case round =>
                  obtain ⟨j2, rfl, hj2, hk2, hr2, hb2⟩ := hrel
                  have HR2 := Lib.hid hr2; clear hr2
                  have HK2 := Lib.hid hk2; clear hk2
                  have k5 := (hb2.cell (p := ⟨w.heap.size, 5, none⟩) (by simpa using hww)).trans KK5.out
                  have c0 := (hb2.cell (p := ⟨g, o + j, none⟩) (by simp; omega)).trans CC0.out
                  have hbb := hb.trans (hb2.mono hb.size)
                  by_cases hlt2 : j2 < x.length
                  · obtain ⟨y, hy⟩ := Pc.get_at hlt2
                    obtain ⟨gx, ox, rfl, _, hgx, d0⟩ := (hxa.below hb2 (by omega)).int hy
                    have hno : ¬ (0 ≤ y ∧ y ≤ 3) → r = false := fun h => by rw [HE.out, Pc.bad_all HX.out (by unfold Pc.okOut; rw [Pc.bad_all (b := fun n => Pc.within n 0 3) hy (Pc.within_no h), Bool.and_false])]
                    have HNO := Lib.hid hno; clear hno
                    have HY := Lib.hid hy; clear hy hxa
                    by_cases p1 : y < 0
                    · go_wp2_with fail
                      go_ret
                      exact ⟨by rw [HNO.out (by omega)]; rfl, hb0.trans (hbb.mono (by have := HSZ.out; omega))⟩
                    · by_cases p2 : 3 < y
                      · go_wp2_with fail
                        go_ret
                        exact ⟨by rw [HNO.out (by omega)]; rfl, hb0.trans (hbb.mono (by have := HSZ.out; omega))⟩
                      · go_wp2_with fail
                        go_roundg (x.length - (j2 + 1))
                        case rel => exact ⟨j2 + 1, by simp, by omega, rfl, Pc.good_next HR2.out HY.out (Pc.within_yes (by omega)), hb2⟩
                        case measure => have := HK2.out; omega
                  · have e2 : Pc.okOut x = true := by
                      have hj3 : j2 = x.length := by omega
                      subst hj3
                      unfold Pc.okOut; rw [Pc.good_all HR2.out, Bool.and_true]; exact decide_eq_true q
                    have E2 := Lib.hid e2; clear e2
                    go_wp2_with fail
                    go_roundg (os.length - (j + 1))
                    case rel => exact ⟨j + 1, by simp, by omega, rfl, Pc.good_next HR.out HX.out E2.out, hbb⟩
                    case measure => have := HK.out; omega
              · go_wp2_with fail
                go_ret
                exact ⟨by rw [HE.out, Pc.bad_all HX.out (by unfold Pc.okOut; rw [decide_eq_false q, Bool.false_and])]; rfl, hb0.trans (hb.mono (by have := HSZ.out; omega))⟩
            · have hj2 : j = os.length := by omega
              subst hj2
              have e1 := Pc.good_all HR.out
              rw [e1] at HE
              clear HR e1 HK hlt hj h3
              go_wp2_with fail
              go_ret
              exact ⟨by rw [HE.out]; rfl, hb0.trans (hb.mono (by have := HSZ.out; omega))⟩

theorem rright_any (v : Value) (p : Pc.Piece) (w : World) (h : PieceIs false w 0 w.heap.size v p) : Calls Try.prog 22 #[v] w
    fun x w' => x = .returned (.bool (Pc.right p)) ∧ Below w.heap.size w w' := by
  cases hh : Pc.okHead p
  · exact rright_head v p w h hh
  · exact rright_tail v p w h hh
end Go.Proofs.Ytdfgnmdofjhnkaa
