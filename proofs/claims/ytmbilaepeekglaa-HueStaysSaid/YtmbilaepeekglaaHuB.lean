/- Rows of messages that are written; hue.all; slices.IndexFunc over messages, with hue.Rest's and hue.Mixed's closures. -/
import Derived.Test.YtmbilaepeekglaaHuA
import Derived.Test.YtmbilaepeekglaaPW
import Derived.Lib.SliceRun
import Derived.Lib.SlBuf
namespace Go.Proofs.Ytmbilaepeekglaa
open Go.RowKit Go.Maps

theorem Box.new' {w : World} {n : Nat} (cs : Array Value) (T : TypeId) (h : w.heap.size = n) : Box (w.alloc (.cells cs T)) n cs T := by subst h; exact Box.new _ _ _

/-- From cell o of block g on there are the messages ys. -/
def RowIs (w : World) (g o : Nat) (ys : List (Int × Int)) : Prop :=
  ∀ k m, ys[k]? = some m → w.cell? ⟨g, o + k * 2, none⟩ = some (.int .i64 m.1) ∧ w.cell? ⟨g, o + k * 2 + 1, none⟩ = some (.int .i64 m.2) ∧ w.frozen? ⟨g, o + k * 2, none⟩ = false ∧ w.frozen? ⟨g, o + k * 2 + 1, none⟩ = false
section
variable {w w' : World} {g o lo hi : Nat} {ys xs : List (Int × Int)} {A : Option Addr}
theorem RowIs.of (h : SliceAt Rep.msg true w lo hi A xs) (hn : 0 < xs.length) : ∃ g o, A = some ⟨g, o, none⟩ ∧ lo ≤ g ∧ g < hi ∧ RowIs w g o xs := by
  obtain ⟨cells, h1, h2⟩ := id h
  obtain ⟨g, o, rfl, hg, _⟩ := h2 hn
  refine ⟨g, o, rfl, hg.1, hg.2, fun k m hk => ?_⟩
  obtain ⟨g', o', cs, he, _, hcs, h4⟩ := AtOn.at_ h hk
  injection he with he; injection he with he1 he2
  subst he1 he2
  have hcs' : cs = [.int .i64 m.1, .int .i64 m.2] := hcs
  subst hcs'
  have e0 := h4 0 _ rfl
  have e1 := h4 1 _ rfl
  simp only [Rep.msg, Nat.add_zero] at e0 e1
  rw [← Nat.add_assoc] at e1
  exact ⟨e0.1, e1.1, e0.2 trivial, e1.2 trivial⟩
def msgCells (ys : List (Int × Int)) : List Value := ys.flatMap fun m => [.int .i64 m.1, .int .i64 m.2]
theorem msgCells_all (w : World) (S : Nat → Prop) (fr : Bool) : ∀ ys : List (Int × Int), Rep.msg.all fr w S (msgCells ys) ys := by
  intro ys
  induction ys with
  | nil => exact rfl
  | cons m t ih => exact ⟨_, msgCells t, by simp [msgCells], rfl, ih⟩
theorem msgCells_at : ∀ (ys : List (Int × Int)) (j : Nat) (u : Value), (msgCells ys)[j]? = some u → ∃ k m, ys[k]? = some m ∧ ((j = k * 2 ∧ u = .int .i64 m.1) ∨ (j = k * 2 + 1 ∧ u = .int .i64 m.2)) := by
  intro ys
  induction ys with
  | nil => intro j u h; simp [msgCells] at h
  | cons m t ih =>
    intro j u h
    have e : msgCells (m :: t) = .int .i64 m.1 :: .int .i64 m.2 :: msgCells t := by simp [msgCells]
    rw [e] at h
    match j with
    | 0 => simp at h; exact ⟨0, m, rfl, .inl ⟨rfl, h.symm⟩⟩
    | 1 => simp at h; exact ⟨0, m, rfl, .inr ⟨rfl, h.symm⟩⟩
    | j + 2 =>
      simp only [List.getElem?_cons_succ] at h
      obtain ⟨k, m', h1, h2⟩ := ih j u h
      refine ⟨k + 1, m', h1, ?_⟩
      rcases h2 with ⟨h2, h3⟩ | ⟨h2, h3⟩
      · exact .inl ⟨by omega, h3⟩
      · exact .inr ⟨by omega, h3⟩
theorem RowIs.at_ (h : RowIs w g o ys) (h1 : lo ≤ g) (h2 : g < hi) : SliceAt Rep.msg true w lo hi (some ⟨g, o, none⟩) ys := by
  refine ⟨msgCells ys, msgCells_all _ _ _ ys, fun _ => ⟨g, o, rfl, ⟨h1, h2⟩, fun j u hj => ?_⟩⟩
  obtain ⟨k, m, hk, he⟩ := msgCells_at ys j u hj
  have hr := h k m hk
  rcases he with ⟨rfl, rfl⟩ | ⟨rfl, rfl⟩
  · exact ⟨hr.1, fun _ => hr.2.2.1⟩
  · rw [← Nat.add_assoc]; exact ⟨hr.2.1, fun _ => hr.2.2.2⟩
theorem RowIs.keep (h : RowIs w g o ys) (hb : w'.heap[g]? = w.heap[g]?) : RowIs w' g o ys := by
  intro k m hk
  rw [cell_of_block hb, cell_of_block hb, frozen_of_block hb, frozen_of_block hb]
  exact h k m hk
theorem RowIs.take (h : RowIs w g o ys) (n : Nat) : RowIs w g o (ys.take n) := by
  intro k m hk
  rw [List.getElem?_take] at hk
  split at hk
  · exact h k m hk
  · cases hk
theorem RowIs.set_ (h : RowIs w g o ys) (i : Nat) (m : Int × Int) : RowIs ((w.setCell ⟨g, o + i * 2, none⟩ (.int .i64 m.1)).setCell ⟨g, o + i * 2 + 1, none⟩ (.int .i64 m.2)) g o (ys.set i m) := by
  intro k x hk
  rw [World.frozen?_setCell, World.frozen?_setCell, World.frozen?_setCell, World.frozen?_setCell]
  by_cases hki : k = i
  · subst hki
    rw [List.getElem?_set] at hk
    simp only [if_true] at hk
    split at hk
    · rename_i hlt
      injection hk with hk; subst hk
      have hr := h k _ (List.getElem?_eq_getElem hlt)
      refine ⟨?_, setCell_at (u0 := .int .i64 ys[k].2) ((setCell_ne (o := o + k * 2) (by omega)).trans hr.2.1), hr.2.2⟩
      rw [setCell_ne (by omega)]
      exact setCell_at hr.1
    · cases hk
  · rw [List.getElem?_set_ne (Ne.symm hki)] at hk
    have hr := h k x hk
    refine ⟨?_, ?_, hr.2.2⟩
    · rw [setCell_ne (by omega), setCell_ne (by omega)]; exact hr.1
    · rw [setCell_ne (by omega), setCell_ne (by omega)]; exact hr.2.1
theorem RowIs.clear (h : RowIs w g o ys) (i n : Nat) (u : Value) : RowIs (w.setCells g (o + i * 2) (List.replicate n u)) g o (ys.take i) := by
  intro k m hk
  rw [List.getElem?_take] at hk
  split at hk
  · rename_i hki
    have hr := h k m hk
    rw [World.cell?_setCells_out g _ _ _ _ (by intro _ _; left; show o + k * 2 < o + i * 2; omega), World.cell?_setCells_out g _ _ _ _ (by intro _ _; left; show o + k * 2 + 1 < o + i * 2; omega), World.frozen?_setCells, World.frozen?_setCells]
    exact hr
  · cases hk
end

/-- 'clear(s)', s messages. -/
theorem run_clear_msgs (w : World) (ty : TypeId) (g o n c : Nat) (hn : 0 < n) (hc : ∀ j, j < n * 2 → (w.cell? ⟨g, o + j, none⟩).isSome = true) (hf : ∀ j, j < n * 2 → w.frozen? ⟨g, o + j, none⟩ = false) :
    (Builtin.clear_ #[24] ty #[.slice (some ⟨g, o, none⟩) n c]).run Try.prog w = .ok (.tuple #[]) (w.setCells g o (List.replicate (n * 2) (.int .i64 0))) := by
  have hz : ∀ w, (zeroValue 54).run Try.prog w = .ok (.agg #[.int .i64 0, .int .i64 0]) w := fun w => by kernel_rfl
  have hzc : (Builtin.zeroCells (Value.agg #[.int .i64 0, .int .i64 0]).cells n).toList = List.replicate (n * 2) (.int .i64 0) := by
    apply List.ext_getElem
    · simp [Builtin.zeroCells, Value.cells]
    · intro i h1 h2
      simp only [Builtin.zeroCells, Value.cells, Array.getElem_toList, List.getElem_replicate]
      have h3 : i % 2 = 0 ∨ i % 2 = 1 := by omega
      rcases h3 with h3 | h3 <;> simp [h3]
  have hst := run_storeCells_cells (P := Try.prog) g o (List.replicate (n * 2) (.int .i64 0)) 0 w (by simpa using hc) (by simpa using hf) (by intro v hv'; rw [List.eq_of_mem_replicate hv']; rfl)
  simp only [Nat.add_zero] at hst
  obtain ⟨m, rfl⟩ : ∃ m, n = m + 1 := ⟨n - 1, by omega⟩
  simp [Builtin.clear_, run_underlying Try.underlying24, hz, hzc, hst]

set_option maxRecDepth 100000 in
set_option maxHeartbeats 2000000 in
theorem all_any (v : Value) (xs : List Int) (w : World) (h : SliceIs Rep.int false w 0 w.heap.size v xs) (hx : xs.length ≤ 1000000) : Calls Try.prog 29 #[v] w
    fun y w' => (∃ v', y = .returned v' ∧ SliceIs Rep.msg true w' w.heap.size w'.heap.size v' (Hu.numb 0 xs)) ∧ Below w.heap.size w w' := by
  obtain ⟨A, c, rfl, hl, hm, hA⟩ := h
  have HA := Lib.hid hA; clear hA
  unfold maxLen at hm
  go_enter Try.func29, Try.ntmps29
  go_wp2_with fail
  go_loopg [3, 8] xs.length (fun k v i wr => ∃ j : Nat, i = .int .i64 (j : Int) ∧ j ≤ xs.length ∧ k = xs.length - j ∧ Acc Rep.msg 54 w.heap.size wr v (Hu.numb 0 (xs.take j)) ∧ Below w.heap.size w wr)
  case atStart => exact ⟨0, rfl, by omega, by omega, Acc.nil _ _ _ _, Below.refl _ _⟩
  case round =>
    obtain ⟨j, rfl, hj, hk, ha, hb⟩ := hrel
    have HK := Lib.hid hk; clear hk
    by_cases hlt : j < xs.length
    · obtain ⟨x, hx2⟩ := Pc.get_at hlt
      obtain ⟨g, o, rfl, _, hg, c0⟩ := (HA.out.below hb (Nat.le_refl _)).int hx2
      have htn := Pc.take_next hx2
      clear hx2
      have hsn : Hu.numb 0 (xs.take (j + 1)) = Hu.numb 0 (xs.take j) ++ [((j : Int) + 1, x)] := by
        rw [htn, Hu.numb_snoc]; simp [Nat.min_eq_left hj]
      have HS := Lib.hid hsn; clear hsn htn
      have hnl : (Hu.numb 0 (xs.take j)).length ≤ 1000000 := by rw [Hu.numb_length]; simp; omega
      go_wp2_with (at_builtin; refine wpList_accB (r := Rep.msg) (y := ((j : Int) + 1, x)) rfl (.tmp 13) (.tmp 18) 24 rfl w.heap.size 54 Try.infoMsg Try.underlying24 rfl (by omega) _ rfl ha (fun b h1 h2 => rfl) (Nat.le_refl _) hb.size 1 _ [.int .i64 ((j : Int) + 1), .int .i64 x] rfl rfl rfl hnl ?_; intro v2 w2 hacc2 hgr2 hb2)
      rw [← HS.out] at hacc2
      go_roundg (xs.length - (j + 1))
      case rel => exact ⟨j + 1, by simp, by omega, rfl, hacc2, hb.trans hb2⟩
      case measure => have := HK.out; omega
    · rw [List.take_of_length_le (by omega)] at ha
      have HS := Lib.hid ha.slice; clear ha
      go_wp2_with fail
      go_ret
      exact ⟨⟨_, rfl, HS.out⟩, hb⟩

theorem CntIs.below {w w' : World} {b B : Nat} {xs : List (Int × Int)} (h : CntIs w b xs) (hb : Below B w w') (hlt : b < B) : CntIs w' b xs := by
  obtain ⟨D, n, h1, h2, h3⟩ := h
  obtain ⟨es, clock, e1, e2⟩ := h1
  exact ⟨D, n, ⟨es, clock, (hb.block b hlt).trans e1, e2⟩, h2, h3⟩
theorem Box.below {w w' : World} {b B : Nat} {cs : Array Value} {T : TypeId} (h : Box w b cs T) (hb : Below B w w') (hlt : b < B) : Box w' b cs T := (hb.block b hlt).trans h

set_option maxRecDepth 100000 in
set_option maxHeartbeats 2000000 in
theorem rest1_any (m : Int × Int) (g b : Nat) (seen : List (Int × Int)) (w : World) (hw : Wf m.1) (hbox : Box w g #[.map (some b)] 64) (hc : CntIs w b seen) :
    Calls Try.prog 30 #[.agg #[.int .i64 m.1, .int .i64 m.2], .pointer (some ⟨g, 0, none⟩)] w fun y w' => y = .returned (.bool (Hu.has seen m.1)) ∧ Below w.heap.size w w' := by
  have hb2 : Below w.heap.size w (w.alloc (.cells #[.int .i64 m.1, .int .i64 m.2] 54)) := (Below.refl _ _).alloc (Nat.le_refl _) _
  have hc2 := hc.next hb2
  have hk := cell_of_one (hbox.next hb2)
  obtain ⟨D, n, hown, hn, hD⟩ := hc2
  have hkey : keyOf Try.prog 3 (.int .i64 m.1) = some (.int .i64 m.1) := keyOf_int_mk Try.underlying3 hw
  have HD := Lib.hid hD; clear hD hc hbox
  go_enter Try.func30, Try.ntmps30
  go_wp2_with (first
    | (at_lookup; refine wpList_lookup_own_int _ rfl _ _ 64 rfl 3 3 .i64 lawInt Try.underlying64 Try.underlying3 (zeroInt _) b n D rfl hown _ _ rfl hkey ?_; intro c hat hwc)
    | go_in)
  go_ret
  refine ⟨?_, hb2⟩
  rw [HD.out] at hat
  injection hat with hat; injection hat with _ hat
  subst hat
  congr 2
  cases hh : Hu.has seen m.1
  · have : ¬ 0 < Hu.cnt seen m.1 := by rw [Hu.cnt_pos, hh]; simp
    simp; omega
  · have := Hu.cnt_pos.2 hh
    simp; omega
end Go.Proofs.Ytmbilaepeekglaa
