/- Lemmas, walks and contracts that the statements of this seat are proved by. -/
import Derived.Test.YtkkbblpofhenpaaS8
import Derived.Test.YtkkbblpofhenpaaS3
import Derived.Test.YtkkbblpofhenpaaRows
import Derived.Test.YtkkbblpofhenpaaS1
import Derived.ProofKit
import Derived.OpenShut
import Derived.ShutString
import Derived.Carry
import Derived.Test.YtkkbblpofhenpaaS2
import Derived.Deep.Slices
import Derived.ChangeArms
import Derived.Test.YtkkbblpofhenpaaS5
import Derived.Test.YtkkbblpofhenpaaS7
/- Contracts of layer 6 in the forms that the laws' walks want. -/
namespace Go.Proofs.Ytkkbblpofhenpaa
open Go.RowKit

theorem SliceIs.next {α : Type} {r : Rep α} {fr : Bool} {w w' : World} {lo : Nat} {v : Value} {xs : List α} (h : SliceIs r fr w lo w.heap.size v xs) (hb : Below w.heap.size w w') : SliceIs r fr w' lo w'.heap.size v xs := (h.below hb (Nat.le_refl _)).widen (Nat.le_refl _) hb.size
theorem SliceIs.zero_ {α : Type} {r : Rep α} {fr : Bool} {w : World} {lo : Nat} {v : Value} {xs : List α} (h : SliceIs r fr w lo w.heap.size v xs) : SliceIs r false w 0 w.heap.size v xs := (h.widen (Nat.zero_le _) (Nat.le_refl _)).soft
/-- Cells that lie there, one behind the other. -/
def Cells (w : World) (g o : Nat) (l : List Value) : Prop := g < w.heap.size ∧ ∀ j u, l[j]? = some u → w.cell? ⟨g, o + j, none⟩ = some u
theorem Cells.next {w w' : World} {g o : Nat} {l : List Value} (h : Cells w g o l) (hb : Below w.heap.size w w') : Cells w' g o l :=
  ⟨Nat.lt_of_lt_of_le h.1 hb.size, fun j u hj => (cell_of_block (hb.block g h.1)).trans (h.2 j u hj)⟩
theorem Cells.four {w : World} {g o : Nat} {a b c d : Value} {t : List Value} (h : Cells w g o (a :: b :: c :: d :: t)) : w.cell? ⟨g, o, none⟩ = some a ∧ w.cell? ⟨g, o + 1, none⟩ = some b ∧ w.cell? ⟨g, o + 2, none⟩ = some c ∧ w.cell? ⟨g, o + 3, none⟩ = some d :=
  ⟨h.2 0 a rfl, h.2 1 b rfl, h.2 2 c rfl, h.2 3 d rfl⟩
end Go.Proofs.Ytkkbblpofhenpaa

/- The frame of a law's proof, for laws of which 'Below' is known behind the call: the arguments read as they did, whatever their types. -/
namespace Go.Proofs.Ytkkbblpofhenpaa
open Go.ChangeShapes Go.WideShapes Go.ChangeAt Go.RowKit
section
variable {H : Type} {enc : TypeId × Value → H} {P : Program}

theorem trodAll_stays (hl : laidOutB P = true) {W W' : World} {sp' : Nat → Bool} : ∀ {ts : List TypeId} {vs : List Value} {ds : List (DataW H)} {ps : List MemPlace}, (∀ t ∈ ts, P.readableRec t = true ∧ t < P.types.size) →
    DataW.TrodAll enc P W 0 (fun _ => true) true ts vs ds ps → (∀ p ∈ ps, W.sameAt W' p) → (∀ p ∈ ps, sp' p.block = true) → DataW.TrodAll enc P W' 0 sp' true ts vs ds ps := by
  intro ts
  induction ts with
  | nil =>
    intro vs ds ps _ h _ _
    obtain ⟨rfl, rfl, rfl⟩ := trodAll_nil h
    exact trodAll_mk0
  | cons t ts ih =>
    intro vs ds ps hts h hsame hsp
    obtain ⟨v, vs', d, ds', p, q, rfl, rfl, rfl, h0, r0⟩ := trodAll_cons h
    have h1 := hts t (by simp)
    exact trodAll_cons_mk (WideElems.Trod_stays hl h1.1 h1.2 h0 (fun x hx => hsame x (by simp [hx])) (fun x hx => hsp x (by simp [hx])))
      (ih (fun t ht => hts t (by simp [ht])) r0 (fun x hx => hsame x (by simp [hx])) (fun x hx => hsp x (by simp [hx])))

/-- The post of a law: true; below the old heap nothing has turned; the arguments are as they were. -/
theorem law_post {f : Func} {s : ChangeSpec} {apart fresh handsOn again : Bool} {W W' : World} {args : Array Value} {ds : List (DataW H)} {before : List MemPlace} {tb : TypeId}
    (hl : laidOutB P = true) (hvars : s.vars = []) (hts : ∀ t ∈ f.params.toList, P.readableRec t = true ∧ t < P.types.size) (hrt : f.resultTypes = #[tb]) (htb : P.underlying tb = some .bool)
    (hW : DataW.Whole enc P f.params.toList s.vars apart W args.toList ds [] before) (hA : DataW.TrodAll enc P W 0 (fun _ => true) true f.params.toList args.toList ds before)
    (hspec : s.fn H ds = { results := [.lit (.bool true)], args := ds }) (hb : Below W.heap.size W W') :
    s.post enc P f apart fresh handsOn again W args (.bool true) W' := by
  have hlt : ∀ p ∈ before, p.block < W.heap.size := fun p hp => hW.lt p hp
  have hold : ∀ p ∈ before, (fun b => decide (b < W.heap.size)) p.block = true := fun p hp => by simpa using hlt p hp
  have hspec' : s.fn H (ds ++ []) = { results := [.lit (.bool true)], args := ds } := by rw [List.append_nil]; exact hspec
  have hargs : ∀ sp : Nat → Bool, (∀ p ∈ before, sp p.block = true) → DataW.TrodAll enc P W' 0 sp true f.params.toList args.toList (s.fn H (ds ++ [])).args before := by
    intro sp hsp
    rw [hspec']
    exact trodAll_stays hl hts hA (fun p hp => hb.same (hlt p hp)) hsp
  have hres : ∀ (b : Nat) (sp : Nat → Bool) (hd : Bool), DataW.TrodAll enc P W' b sp hd f.resultTypes.toList ((Value.bool true).resultList f.resultTypes.size) (s.fn H (ds ++ [])).results [] := by
    intro b sp hd
    rw [hspec', hrt]
    exact trodAll_cons_mk (shut_bool htb _) trodAll_mk0
  have hvar : ∀ sp : Nat → Bool, DataW.TrodVars enc P W' sp s.vars (s.fn H (ds ++ [])).vars [] := by
    intro sp
    rw [hspec', hvars]
    rfl
  have hok : ∀ (j : Nat) (t : TypeId) (r : Value), f.resultTypes[j]? = some t → ((Value.bool true).resultList f.resultTypes.size)[j]? = some r → Value.okWide P W' .any 0 t r :=
    ok_one hrt rfl (okWide_bool_mk htb _)
  refine ⟨ds, [], before, [], before, [], hW, hres _ _ _, hargs _ hold, hvar _, World.keptBut_mono (fun p hp => ⟨hp, Or.inr (Or.inl hp)⟩) (hb.frame (· ∈ before)), fun _ => ?_⟩
  obtain ⟨_, _, _, _, _, hz, hn⟩ := hW
  refine ⟨hok, _, _, ([] ++ before) ++ [], ⟨[] ++ before, [], trodAll_append (hargs _ (fun _ _ => rfl)) (hres _ _ _), hvar _, rfl, ?_, ?_⟩, ?_⟩
  · intro b off hp
    have hin : MemPlace.cell b off ∈ before := by simpa using hp
    rw [hb.frozen (hlt _ hin)]
    exact hz b off hin
  · intro ha
    have := hn ha
    simpa using this
  · intro p hp _
    simpa using hp

end
end Go.Proofs.Ytkkbblpofhenpaa

/- Arguments of a law that read as lists, lists of lists, pieces. Nothing of the program. -/
namespace Go.Proofs.Ytkkbblpofhenpaa
open Go.ChangeShapes Go.WideShapes Go.ChangeAt Go.RowKit
section
variable {H : Type} {enc : TypeId × Value → H} {P : Program} {W : World} {α : Type} {r : Rep α} {t e : TypeId}

/-- Cells of type t that were read ahead of the call read as r says. -/
def Opens (enc : TypeId × Value → H) (P : Program) (W : World) (t : TypeId) (r : Rep α) : Prop :=
  ∀ (fuel : Nat) (cs : List Value) (x : DataW H × List MemPlace), DataW.trod enc P W 0 (fun _ => true) true fuel t cs = some x → ∃ a, r.is false W (rng 0 W.heap.size) cs a

theorem opens_int (ht : P.underlying t = some (.int .i64)) : Opens enc P W t Rep.int := by
  intro fuel cs x h
  obtain ⟨n, rfl, _⟩ := DataW.trod_int ht h
  exact ⟨n, rfl⟩
theorem addr_form {a : Addr} {u : Value} (h : W.cell? a = some u) : a = ⟨a.block, a.off, none⟩ := by
  obtain ⟨b, o, s⟩ := a
  cases s with
  | none => rfl
  | some s =>
    exfalso
    unfold World.cell? at h
    split at h <;> simp at h
theorem all_opens (ho : Opens enc P W e r) (hc : P.cellsOf e = r.size) {a : Addr} {n : Nat} {D : Nat → DataW H} {Pl : Nat → List MemPlace} : ∀ (m k : Nat),
    (∀ i, i < k + m → ∃ cs', W.cells? 0 (a.add (i * P.cellsOf e)) (P.cellsOf e) = some cs' ∧ DataW.trod enc P W 0 (fun _ => true) true n e cs' = some (D i, Pl i)) →
    ∃ cells xs, r.all false W (rng 0 W.heap.size) cells xs ∧ xs.length = m ∧ ∀ j u, cells[j]? = some u → W.cell? ((a.add (k * r.size)).add j) = some u := by
  intro m
  induction m with
  | zero => intro k _; exact ⟨[], [], rfl, rfl, fun j u h => by simp at h⟩
  | succ m ih =>
    intro k h
    obtain ⟨cs, h1, h2⟩ := h k (by omega)
    obtain ⟨x, hx⟩ := ho _ _ _ h2
    obtain ⟨cells, xs, h3, h4, h5⟩ := ih (k + 1) (fun i hi => h i (by omega))
    obtain ⟨_, hl, hat⟩ := World.cells?_some h1
    rw [hc] at hl hat
    refine ⟨cs ++ cells, x :: xs, ⟨cs, cells, rfl, hx, h3⟩, by simp [h4], fun j u hj => ?_⟩
    by_cases hjl : j < cs.length
    · rw [List.getElem?_append_left hjl] at hj
      rw [hat j (by omega)]; exact hj
    · rw [List.getElem?_append_right (by omega)] at hj
      have := h5 _ _ hj
      rw [Go.Deep.add_add] at this ⊢
      rw [show (k + 1) * r.size + (j - cs.length) = k * r.size + j from by rw [Nat.succ_mul]; omega] at this
      exact this
theorem opens_slice (ht : P.underlying t = some (.slice e)) (hc : P.cellsOf e = r.size) (ho : Opens enc P W e r) : Opens enc P W t r.slice := by
  intro fuel cs x h
  rcases Go.Deep.open_slice ht h with ⟨rfl, _⟩ | ⟨a, len, cap, m, n, D, Pl, rfl, _, hl, hm, hmm, _, hel⟩
  · exact ⟨[], _, rfl, SliceOn.none_⟩
  · have hlm : len ≤ m := by rw [hmm]; simpa using hl
    obtain ⟨cells, xs, h1, h2, h3⟩ := all_opens ho hc len 0 (fun i hi => hel i (by omega))
    rw [Nat.zero_mul] at h3
    subst h2
    refine ⟨xs, _, rfl, some a, cap, rfl, hl, hm, cells, h1, fun hpos => ?_⟩
    have hlen := Rep.all_len h1
    have hpos2 : 0 < cells.length := by rw [hlen]; exact Nat.mul_pos hpos r.pos
    have h0 := h3 0 cells[0] (by simp)
    have h0 : W.cell? a = some cells[0] := by simpa [Addr.add] using h0
    have ha := addr_form h0
    have hblk : a.block < W.heap.size := World.block_lt_of_cell? W _ h0
    refine ⟨a.block, a.off, by rw [← ha], ⟨Nat.zero_le _, hblk⟩, fun j u hj => ⟨?_, fun h => by cases h⟩⟩
    have := h3 j u hj
    rw [Go.Deep.add_add, Nat.zero_add, ha, add_at] at this
    exact this
theorem opens_msg {f0 f1 : Field} (hs : P.underlying t = some (.struct #[f0, f1])) (h0 : P.underlying f0.type = some (.int .i64)) (h1 : P.underlying f1.type = some (.int .i64)) (hc : P.cellsOf t = 2) (o0 : f0.offset = 0) (o1 : f1.offset = 1) (c0 : P.cellsOf f0.type = 1) (c1 : P.cellsOf f1.type = 1) :
    Opens enc P W t Rep.msg := by
  intro fuel cs x h
  obtain ⟨xs, n, _, _, hl, hxl, hf⟩ := DataW.trod_struct hs h
  rw [hc] at hl
  match cs, hl, xs, hxl with
  | [u0, u1], _, [x0, x1], _ =>
    have e0 := hf 0 f0 rfl
    have e1 := hf 1 f1 rfl
    rw [o0, c0] at e0
    rw [o1, c1] at e1
    obtain ⟨a, ha, _⟩ := DataW.trod_int h0 e0
    obtain ⟨b, hb, _⟩ := DataW.trod_int h1 e1
    simp at ha hb
    exact ⟨(a, b), by rw [ha, hb]; rfl⟩
theorem opens_piece {f0 f1 f2 f3 f4 f5 : Field} (hs : P.underlying t = some (.struct #[f0, f1, f2, f3, f4, f5])) (h0 : P.underlying f0.type = some (.int .i64)) (h1 : P.underlying f1.type = some (.int .i64)) (h2 : P.underlying f2.type = some (.int .i64))
    (h3 : Opens enc P W f3.type Rep.int.slice) (h4 : Opens enc P W f4.type Rep.msg.slice.slice) (h5 : Opens enc P W f5.type Rep.int.slice.slice) (hc : P.cellsOf t = 6)
    (o : f0.offset = 0 ∧ f1.offset = 1 ∧ f2.offset = 2 ∧ f3.offset = 3 ∧ f4.offset = 4 ∧ f5.offset = 5) (c : P.cellsOf f0.type = 1 ∧ P.cellsOf f1.type = 1 ∧ P.cellsOf f2.type = 1 ∧ P.cellsOf f3.type = 1 ∧ P.cellsOf f4.type = 1 ∧ P.cellsOf f5.type = 1) :
    Opens enc P W t Rep.piece := by
  obtain ⟨o0, o1, o2, o3, o4, o5⟩ := o
  obtain ⟨c0, c1, c2, c3, c4, c5⟩ := c
  intro fuel cs x h
  obtain ⟨xs, n, _, _, hl, hxl, hf⟩ := DataW.trod_struct hs h
  rw [hc] at hl
  match cs, hl, xs, hxl with
  | [u0, u1, u2, u3, u4, u5], _, [x0, x1, x2, x3, x4, x5], _ =>
    have e0 := hf 0 f0 rfl
    have e1 := hf 1 f1 rfl
    have e2 := hf 2 f2 rfl
    have e3 := hf 3 f3 rfl
    have e4 := hf 4 f4 rfl
    have e5 := hf 5 f5 rfl
    rw [o0, c0] at e0
    rw [o1, c1] at e1
    rw [o2, c2] at e2
    rw [o3, c3] at e3
    rw [o4, c4] at e4
    rw [o5, c5] at e5
    obtain ⟨a0, q0, _⟩ := DataW.trod_int h0 e0
    obtain ⟨a1, q1, _⟩ := DataW.trod_int h1 e1
    obtain ⟨a2, q2, _⟩ := DataW.trod_int h2 e2
    obtain ⟨a3, v3, q3, q3'⟩ := h3 _ _ _ e3
    obtain ⟨a4, v4, q4, q4'⟩ := h4 _ _ _ e4
    obtain ⟨a5, v5, q5, q5'⟩ := h5 _ _ _ e5
    simp at q0 q1 q2 q3 q4 q5
    subst q0 q1 q2 q3 q4 q5
    exact ⟨⟨a0, a1, a2, a3, a4, a5⟩, _, _, _, rfl, q3', q4', q5'⟩
/-- An argument that is a slice. -/
theorem arg_slice {v : Value} {d : DataW H} {p : List MemPlace} {base : Nat} (ht : P.underlying t = some (.slice e)) (ho : Opens enc P W t r.slice) (hv : Value.okWide P W .any base t v) (h : DataW.Trod enc P W 0 (fun _ => true) true t v d p) :
    ∃ xs : List α, SliceIs r false W 0 W.heap.size v xs := by
  obtain ⟨a0, len, cap, rfl⟩ := okWide_slice ht hv
  obtain ⟨fuel, hf⟩ := h
  obtain ⟨xs, v, hv, hs⟩ := ho _ _ _ hf
  simp [Value.cells] at hv
  subst hv
  exact ⟨xs, hs⟩
end
end Go.Proofs.Ytkkbblpofhenpaa

/- An argument that is a piece. -/
namespace Go.Proofs.Ytkkbblpofhenpaa
open Go.ChangeShapes Go.WideShapes Go.ChangeAt Go.RowKit
section
set_option maxRecDepth 100000
variable {H : Type} {enc : TypeId × Value → H} {W : World}
theorem ints_opens : Opens enc Try.prog W 35 Rep.int.slice := opens_slice Try.underlying35 (by kernel_rfl) (opens_int Try.underlying3)
theorem msg_opens : Opens enc Try.prog W 33 Rep.msg := opens_msg Try.underlying33 Try.underlying3 Try.underlying3 (by kernel_rfl) rfl rfl (by kernel_rfl) (by kernel_rfl)
theorem msgs_opens : Opens enc Try.prog W 62 Rep.msg.slice := opens_slice Try.underlying62 (by kernel_rfl) msg_opens
theorem piece_opens : Opens enc Try.prog W 79 Rep.piece :=
  opens_piece Try.underlying79 Try.underlying3 Try.underlying3 Try.underlying3 ints_opens (opens_slice Try.underlying76 (by kernel_rfl) msgs_opens) (opens_slice Try.underlying77 (by kernel_rfl) ints_opens) (by kernel_rfl)
    ⟨rfl, rfl, rfl, rfl, rfl, rfl⟩ ⟨by kernel_rfl, by kernel_rfl, by kernel_rfl, by kernel_rfl, by kernel_rfl, by kernel_rfl⟩
end
end Go.Proofs.Ytkkbblpofhenpaa

/- An argument that is a frame. -/
namespace Go.Proofs.Ytkkbblpofhenpaa
open Go.ChangeShapes Go.WideShapes Go.ChangeAt Go.RowKit
section
variable {H : Type} {enc : TypeId × Value → H} {P : Program} {W : World} {t : TypeId}
/-- Nine cells that read as a frame. -/
def frCells (W : World) (cs : List Value) (f : Fr) : Prop :=
  ∃ a b, cs = [.int .i64 f.kind, .int .i64 f.epoch, .int .i64 f.seq, .int .i64 f.letter, a, .int .i64 f.init, .int .i64 f.num, .int .i64 f.count, b] ∧ SliceIs Rep.piece false W 0 W.heap.size a f.pieces ∧ SliceIs Rep.int false W 0 W.heap.size b f.path
theorem opens_frame {f0 f1 f2 f3 f4 f5 f6 f7 : Field} (hs : P.underlying t = some (.struct #[f0, f1, f2, f3, f4, f5, f6, f7])) (h0 : P.underlying f0.type = some (.int .i64)) (h1 : P.underlying f1.type = some (.int .i64)) (h2 : Opens enc P W f2.type Rep.msg)
    (h3 : Opens enc P W f3.type Rep.piece.slice) (h4 : P.underlying f4.type = some (.int .i64)) (h5 : P.underlying f5.type = some (.int .i64)) (h6 : P.underlying f6.type = some (.int .i64)) (h7 : Opens enc P W f7.type Rep.int.slice) (hc : P.cellsOf t = 9)
    (o : f0.offset = 0 ∧ f1.offset = 1 ∧ f2.offset = 2 ∧ f3.offset = 4 ∧ f4.offset = 5 ∧ f5.offset = 6 ∧ f6.offset = 7 ∧ f7.offset = 8) (c : P.cellsOf f0.type = 1 ∧ P.cellsOf f1.type = 1 ∧ P.cellsOf f2.type = 2 ∧ P.cellsOf f3.type = 1 ∧ P.cellsOf f4.type = 1 ∧ P.cellsOf f5.type = 1 ∧ P.cellsOf f6.type = 1 ∧ P.cellsOf f7.type = 1)
    (fuel : Nat) (cs : List Value) (x : DataW H × List MemPlace) (h : DataW.trod enc P W 0 (fun _ => true) true fuel t cs = some x) : ∃ f, frCells W cs f := by
  obtain ⟨o0, o1, o2, o3, o4, o5, o6, o7⟩ := o
  obtain ⟨c0, c1, c2, c3, c4, c5, c6, c7⟩ := c
  obtain ⟨xs, n, _, _, hl, hxl, hf⟩ := DataW.trod_struct hs h
  rw [hc] at hl
  match cs, hl, xs, hxl with
  | [u0, u1, u2, u3, u4, u5, u6, u7, u8], _, [x0, x1, x2, x3, x4, x5, x6, x7], _ =>
    have e0 := hf 0 f0 rfl
    have e1 := hf 1 f1 rfl
    have e2 := hf 2 f2 rfl
    have e3 := hf 3 f3 rfl
    have e4 := hf 4 f4 rfl
    have e5 := hf 5 f5 rfl
    have e6 := hf 6 f6 rfl
    have e7 := hf 7 f7 rfl
    rw [o0, c0] at e0
    rw [o1, c1] at e1
    rw [o2, c2] at e2
    rw [o3, c3] at e3
    rw [o4, c4] at e4
    rw [o5, c5] at e5
    rw [o6, c6] at e6
    rw [o7, c7] at e7
    obtain ⟨a0, q0, _⟩ := DataW.trod_int h0 e0
    obtain ⟨a1, q1, _⟩ := DataW.trod_int h1 e1
    obtain ⟨a2, q2⟩ := h2 _ _ _ e2
    obtain ⟨a3, v3, q3, q3'⟩ := h3 _ _ _ e3
    obtain ⟨a4, q4, _⟩ := DataW.trod_int h4 e4
    obtain ⟨a5, q5, _⟩ := DataW.trod_int h5 e5
    obtain ⟨a6, q6, _⟩ := DataW.trod_int h6 e6
    obtain ⟨a7, v7, q7, q7'⟩ := h7 _ _ _ e7
    have m2 : List.take 2 (List.drop 2 [u0, u1, u2, u3, u4, u5, u6, u7, u8]) = [.int .i64 a2.1, .int .i64 a2.2] := q2
    clear q2
    simp at q0 q1 m2 q3 q4 q5 q6 q7
    obtain ⟨m2, m3⟩ := m2
    subst q0 q1 m2 m3 q3 q4 q5 q6 q7
    exact ⟨⟨a0, a1, a2.1, a2.2, a3, a4, a5, a6, a7⟩, _, _, rfl, q3', q7'⟩
end
end Go.Proofs.Ytkkbblpofhenpaa

/- Contracts of layer 7 in the forms that the laws' walks want. -/
namespace Go.Proofs.Ytkkbblpofhenpaa
open Go.RowKit

/-- A frame whose lists are short. -/
def Fr.Small (f : Fr) : Prop := f.pieces.length ≤ 7 ∧ f.path.length ≤ 8 ∧ ∀ p ∈ f.pieces, Pc.sized p
theorem Fr.cut_small (f : Fr) : Fr.Small (Fr.cut f) := by
  refine ⟨by simp only [Fr.cut, List.length_map, List.length_take]; omega, by simp only [Fr.cut, List.length_take]; omega, fun p hp => ?_⟩
  simp only [Fr.cut, List.mem_map] at hp
  obtain ⟨q, _, rfl⟩ := hp
  exact Pc.cut_sized q
theorem FrIs.zero_ {fr : Bool} {w : World} {lo : Nat} {v : Value} {f : Fr} (h : FrIs fr w lo w.heap.size v f) : FrIs false w 0 w.heap.size v f := (h.widen (Nat.zero_le _) (Nat.le_refl _)).soft
theorem FrIs.nine_far {fr : Bool} {w : World} {lo b : Nat} {v : Value} {f : Fr} {a0 a1 a2 a3 a4 a5 a6 a7 a8 : Value} (h : FrIs fr w lo w.heap.size v f) (hb : b < lo) : FrIs fr (wnine w b a0 a1 a2 a3 a4 a5 a6 a7 a8) lo (wnine w b a0 a1 a2 a3 a4 a5 a6 a7 a8).heap.size v f :=
  (h.keep fun q h1 _ => Go.Proofs.Ytkkbblpofhenpaa.nine_far (by omega)).widen (Nat.le_refl _) (Nat.le_of_eq nine_size.symm)
theorem Box.nine_far {w : World} {b g : Nat} {cs : Array Value} {T : TypeId} {a0 a1 a2 a3 a4 a5 a6 a7 a8 : Value} (h : Box w g cs T) (hb : g ≠ b) : Box (wnine w b a0 a1 a2 a3 a4 a5 a6 a7 a8) g cs T := (Go.Proofs.Ytkkbblpofhenpaa.nine_far hb).trans h
theorem frzero_is {fr : Bool} {w : World} {lo hi : Nat} : FrIs fr w lo hi (.agg #[.int .i64 0, .int .i64 0, .int .i64 0, .int .i64 0, .slice none 0 0, .int .i64 0, .int .i64 0, .int .i64 0, .slice none 0 0]) Fr.zero := FrIs.of (f := Fr.zero) SliceIs.none_ SliceIs.none_
variable {v u : Value} {f g : Fr} {w : World}
theorem cright {b : Bool} (h : FrIs false w 0 w.heap.size v f) (hr : Fr.right f = b) : Calls Try.prog 54 #[v] w fun x w' => x = .returned (.bool b) ∧ Below w.heap.size w w' := by subst hr; exact frright_any v f w h
theorem crright {b : Bool} (h : FrIs false w 0 w.heap.size v f) (hr : Fr.right f = b) : Calls Try.prog 37 #[v] w fun x w' => x = .returned (.bool b) ∧ Below w.heap.size w w' := by subst hr; exact rfrright_any v f w h
theorem crsame {b : Bool} (h : FrIs false w 0 w.heap.size v f) (h' : FrIs false w 0 w.heap.size u g) (he : decide (f = g) = b) : Calls Try.prog 24 #[v, u] w fun x w' => x = .returned (.bool b) ∧ Below w.heap.size w w' := by subst he; exact rfrsame_any v u f g w h h'
theorem ccut (h : FrIs false w 0 w.heap.size v g) (he : Fr.cut g = f) : Calls Try.prog 18 #[v] w
    fun x w' => (∃ A k B l, x = .returned (.agg #[.int .i64 f.kind, .int .i64 f.epoch, .int .i64 f.seq, .int .i64 f.letter, .slice A f.pieces.length k, .int .i64 f.init, .int .i64 f.num, .int .i64 f.count, .slice B f.path.length l]) ∧ FrIs false w' w.heap.size w'.heap.size (.agg #[.int .i64 f.kind, .int .i64 f.epoch, .int .i64 f.seq, .int .i64 f.letter, .slice A f.pieces.length k, .int .i64 f.init, .int .i64 f.num, .int .i64 f.count, .slice B f.path.length l]) f) ∧ Below w.heap.size w w' := by
  subst he
  refine (frcut_any v g w h).mono ?_
  rintro x w' ⟨⟨v, rfl, hv⟩, hb⟩
  have hv' := hv
  obtain ⟨A, B, k, l, rfl, _, _⟩ := hv'
  exact ⟨⟨A, k, B, l, rfl, hv⟩, hb⟩
theorem cref (h : FrIs false w 0 w.heap.size v f) (hs : f.Small) : Calls Try.prog 21 #[v] w
    fun x w' => (∃ A k B l, x = .returned (.agg #[.int .i64 f.kind, .int .i64 f.epoch, .int .i64 f.seq, .int .i64 f.letter, .slice A f.pieces.length k, .int .i64 f.init, .int .i64 f.num, .int .i64 f.count, .slice B f.path.length l]) ∧ FrIs false w' 0 w'.heap.size (.agg #[.int .i64 f.kind, .int .i64 f.epoch, .int .i64 f.seq, .int .i64 f.letter, .slice A f.pieces.length k, .int .i64 f.init, .int .i64 f.num, .int .i64 f.count, .slice B f.path.length l]) f) ∧ Below w.heap.size w w' := by
  refine (frref_any v f w h (by have := hs.1; omega)).mono ?_
  rintro x w' ⟨⟨v, rfl, hv⟩, hb⟩
  have hv' := hv
  obtain ⟨A, B, k, l, rfl, _, _⟩ := hv'
  exact ⟨⟨A, k, B, l, rfl, hv⟩, hb⟩
namespace Fr
end Fr
end Go.Proofs.Ytkkbblpofhenpaa

/- A row of eight pieces of the call's own whose fields are written. -/
namespace Go.Proofs.Ytkkbblpofhenpaa
open Go.RowKit

def upd {α : Type} (f : Nat → α) (k : Nat) (x : α) : Nat → α := fun i => if i = k then x else f i
theorem upd_at {α : Type} (f : Nat → α) (k : Nat) (x : α) : upd f k x k = x := by simp [upd]
theorem upd_ne {α : Type} (f : Nat → α) {k i : Nat} (x : α) (h : i ≠ k) : upd f k x i = f i := by simp [upd, h]

/-- Every block but g. -/
abbrev butS (w : World) (g : Nat) : Nat → Prop := fun b => b ≠ g ∧ b < w.heap.size
/-- Block g holds eight pieces. -/
structure Each (w : World) (g : Nat) (f : Nat → Pc.Piece) : Prop where
  lt : g < w.heap.size
  free : ∀ o, w.frozen? ⟨g, o, none⟩ = false
  at_ : ∀ i, i < 8 → ∃ a b c, w.cell? ⟨g, i * 6, none⟩ = some (.int .i64 (f i).node) ∧ w.cell? ⟨g, i * 6 + 1, none⟩ = some (.int .i64 (f i).state) ∧ w.cell? ⟨g, i * 6 + 2, none⟩ = some (.int .i64 (f i).steps) ∧
    w.cell? ⟨g, i * 6 + 3, none⟩ = some a ∧ w.cell? ⟨g, i * 6 + 4, none⟩ = some b ∧ w.cell? ⟨g, i * 6 + 5, none⟩ = some c ∧
    SliceOn Rep.int false w (butS w g) a (f i).sent ∧ SliceOn Rep.msg.slice false w (butS w g) b (f i).inn ∧ SliceOn Rep.int.slice false w (butS w g) c (f i).out
section
variable {w w' : World} {g k : Nat} {f : Nat → Pc.Piece}
theorem Each.next (h : Each w g f) (hb : Below w.heap.size w w') : Each w' g f := by
  have hc : ∀ o, w'.cell? ⟨g, o, none⟩ = w.cell? ⟨g, o, none⟩ := fun o => cell_of_block (hb.block g h.lt)
  have hs : ∀ b, butS w g b → butS w' g b := fun b h => ⟨h.1, Nat.lt_of_lt_of_le h.2 hb.size⟩
  refine ⟨Nat.lt_of_lt_of_le h.lt hb.size, fun o => (frozen_of_block (hb.block g h.lt)).trans (h.free o), fun i hi => ?_⟩
  obtain ⟨a, b, c, h0, h1, h2, h3, h4, h5, h6, h7, h8⟩ := h.at_ i hi
  exact ⟨a, b, c, (hc _).trans h0, (hc _).trans h1, (hc _).trans h2, (hc _).trans h3, (hc _).trans h4, (hc _).trans h5, (h6.keep fun b hb' => hb.block b hb'.2).widen hs, (h7.keep fun b hb' => hb.block b hb'.2).widen hs, (h8.keep fun b hb' => hb.block b hb'.2).widen hs⟩
theorem Each.piece (h : Each w g f) {i : Nat} (hi : i < 8) : ∃ a b c, w.cell? ⟨g, i * 6, none⟩ = some (.int .i64 (f i).node) ∧ w.cell? ⟨g, i * 6 + 1, none⟩ = some (.int .i64 (f i).state) ∧ w.cell? ⟨g, i * 6 + 2, none⟩ = some (.int .i64 (f i).steps) ∧
    w.cell? ⟨g, i * 6 + 3, none⟩ = some a ∧ w.cell? ⟨g, i * 6 + 4, none⟩ = some b ∧ w.cell? ⟨g, i * 6 + 5, none⟩ = some c ∧ PieceIs false w 0 w.heap.size (.agg #[.int .i64 (f i).node, .int .i64 (f i).state, .int .i64 (f i).steps, a, b, c]) (f i) := by
  obtain ⟨a, b, c, h0, h1, h2, h3, h4, h5, h6, h7, h8⟩ := h.at_ i hi
  have hs : ∀ b, butS w g b → rng 0 w.heap.size b := fun b h => ⟨Nat.zero_le _, h.2⟩
  exact ⟨a, b, c, h0, h1, h2, h3, h4, h5, _, _, _, rfl, SliceOn.is_ (h6.widen hs), SliceOn.is_ (h7.widen hs), SliceOn.is_ (h8.widen hs)⟩
theorem setCell_at {o : Nat} {u u0 : Value} (h : w.cell? ⟨g, o, none⟩ = some u0) : (w.setCell ⟨g, o, none⟩ u).cell? ⟨g, o, none⟩ = some u := by
  unfold World.cell? at h ⊢
  cases hb : w.heap[g]? with
  | none => rw [hb] at h; cases h
  | some x =>
    rw [hb] at h
    cases x <;> dsimp only at h <;> try (cases h; done)
    case cells c e fr =>
      simp only [Option.isSome_none, Bool.false_eq_true, if_false] at h
      have hlt : o < c.size := (Array.getElem?_eq_some_iff.1 h).1
      have hg : g < w.heap.size := (Array.getElem?_eq_some_iff.1 hb).1
      have e1 : (w.setCell ⟨g, o, none⟩ u).heap[g]? = some (.cells (c.setIfInBounds o u) e fr) := by
        unfold World.setCell
        have := Array.getElem?_eq_some_iff.1 hb
        simp [Array.getElem?_modify, hb]
      rw [e1]
      simp [hlt]
theorem setCell_ne {o o' : Nat} {u : Value} (h : o' ≠ o) : (w.setCell ⟨g, o, none⟩ u).cell? ⟨g, o', none⟩ = w.cell? ⟨g, o', none⟩ := by
  unfold World.cell?
  have e : (w.setCell ⟨g, o, none⟩ u).heap[g]? = (w.heap[g]?).map fun x => match x with | .cells c e fr => .cells (c.setIfInBounds o u) e fr | x => x := by
    unfold World.setCell
    simp [Array.getElem?_modify]
    cases w.heap[g]? with
    | none => rfl
    | some x => cases x <;> rfl
  rw [e]
  cases w.heap[g]? with
  | none => rfl
  | some x => cases x <;> simp [Ne.symm h]
theorem setCell_free {o o' : Nat} {u : Value} : (w.setCell ⟨g, o, none⟩ u).frozen? ⟨g, o', none⟩ = w.frozen? ⟨g, o', none⟩ := by
  unfold World.frozen?
  have e : (w.setCell ⟨g, o, none⟩ u).heap[g]? = (w.heap[g]?).map fun x => match x with | .cells c e fr => .cells (c.setIfInBounds o u) e fr | x => x := by
    unfold World.setCell
    simp [Array.getElem?_modify]
    cases w.heap[g]? with
    | none => rfl
    | some x => cases x <;> rfl
  rw [e]
  cases w.heap[g]? with
  | none => rfl
  | some x => cases x <;> rfl
/-- A field of element k is written: 'j': which; 'p': what element k is then. -/
theorem Each.set_ (h : Each w g f) (hk : k < 8) (j : Nat) (hj : j < 6) (u : Value) (p : Pc.Piece)
    (hp : ∀ a b c, SliceOn Rep.int false w (butS w g) a (f k).sent → SliceOn Rep.msg.slice false w (butS w g) b (f k).inn → SliceOn Rep.int.slice false w (butS w g) c (f k).out →
      ∃ a' b' c', (∀ i, i < 6 → ([Value.int .i64 (f k).node, .int .i64 (f k).state, .int .i64 (f k).steps, a, b, c].set j u)[i]? = [Value.int .i64 p.node, .int .i64 p.state, .int .i64 p.steps, a', b', c'][i]?) ∧
        SliceOn Rep.int false w (butS w g) a' p.sent ∧ SliceOn Rep.msg.slice false w (butS w g) b' p.inn ∧ SliceOn Rep.int.slice false w (butS w g) c' p.out) :
    Each (w.setCell ⟨g, k * 6 + j, none⟩ u) g (upd f k p) := by
  have hz : (w.setCell ⟨g, k * 6 + j, none⟩ u).heap.size = w.heap.size := by simp [World.setCell]
  have hfar : ∀ b, butS w g b → (w.setCell ⟨g, k * 6 + j, none⟩ u).heap[b]? = w.heap[b]? := fun b hb => heap_setCell_other _ _ _ _ hb.1
  have hs : ∀ b, butS w g b → butS (w.setCell ⟨g, k * 6 + j, none⟩ u) g b := fun b hb => ⟨hb.1, by rw [hz]; exact hb.2⟩
  refine ⟨by rw [hz]; exact h.lt, fun o => setCell_free.trans (h.free o), fun i hi => ?_⟩
  by_cases hik : i = k
  · subst hik
    rw [upd_at]
    obtain ⟨a, b, c, h0, h1, h2, h3, h4, h5, h6, h7, h8⟩ := h.at_ i hi
    obtain ⟨a', b', c', he, q1, q2, q3⟩ := hp a b c h6 h7 h8
    have key : ∀ m, m < 6 → ∀ v v', [Value.int .i64 (f i).node, .int .i64 (f i).state, .int .i64 (f i).steps, a, b, c][m]? = some v → [Value.int .i64 p.node, .int .i64 p.state, .int .i64 p.steps, a', b', c'][m]? = some v' → w.cell? ⟨g, i * 6 + m, none⟩ = some v → (w.setCell ⟨g, i * 6 + j, none⟩ u).cell? ⟨g, i * 6 + m, none⟩ = some v' := by
      intro m hm v v' e1 e2 e3
      have e4 := he m hm
      by_cases hmj : m = j
      · subst hmj
        rw [setCell_at e3]
        rw [e2, List.getElem?_set_self (by simpa using hm)] at e4
        exact e4
      · rw [setCell_ne (by omega), e3]
        rw [e2, List.getElem?_set_ne (Ne.symm hmj), e1] at e4
        exact e4
    exact ⟨a', b', c', key 0 (by omega) _ _ rfl rfl h0, key 1 (by omega) _ _ rfl rfl h1, key 2 (by omega) _ _ rfl rfl h2, key 3 (by omega) _ _ rfl rfl h3, key 4 (by omega) _ _ rfl rfl h4, key 5 (by omega) _ _ rfl rfl h5,
      (q1.keep hfar).widen hs, (q2.keep hfar).widen hs, (q3.keep hfar).widen hs⟩
  · rw [upd_ne _ _ hik]
    obtain ⟨a, b, c, h0, h1, h2, h3, h4, h5, h6, h7, h8⟩ := h.at_ i hi
    have o : ∀ m, m < 6 → (w.setCell ⟨g, k * 6 + j, none⟩ u).cell? ⟨g, i * 6 + m, none⟩ = w.cell? ⟨g, i * 6 + m, none⟩ := fun m hm => setCell_ne (by omega)
    exact ⟨a, b, c, (o 0 (by omega)).trans h0, (o 1 (by omega)).trans h1, (o 2 (by omega)).trans h2, (o 3 (by omega)).trans h3, (o 4 (by omega)).trans h4, (o 5 (by omega)).trans h5, (h6.keep hfar).widen hs, (h7.keep hfar).widen hs, (h8.keep hfar).widen hs⟩
theorem Each.node (h : Each w g f) (hk : k < 8) (x : Int) : Each (w.setCell ⟨g, k * 6 + 0, none⟩ (.int .i64 x)) g (upd f k { f k with node := x }) :=
  h.set_ hk 0 (by omega) _ _ fun a b c h1 h2 h3 => ⟨a, b, c, fun i hi => rfl, h1, h2, h3⟩
theorem Each.state (h : Each w g f) (hk : k < 8) (x : Int) : Each (w.setCell ⟨g, k * 6 + 1, none⟩ (.int .i64 x)) g (upd f k { f k with state := x }) :=
  h.set_ hk 1 (by omega) _ _ fun a b c h1 h2 h3 => ⟨a, b, c, fun i hi => rfl, h1, h2, h3⟩
theorem Each.steps (h : Each w g f) (hk : k < 8) (x : Int) : Each (w.setCell ⟨g, k * 6 + 2, none⟩ (.int .i64 x)) g (upd f k { f k with steps := x }) :=
  h.set_ hk 2 (by omega) _ _ fun a b c h1 h2 h3 => ⟨a, b, c, fun i hi => rfl, h1, h2, h3⟩
theorem Each.sent (h : Each w g f) (hk : k < 8) {v : Value} {xs : List Int} (hv : SliceOn Rep.int false w (butS w g) v xs) : Each (w.setCell ⟨g, k * 6 + 3, none⟩ v) g (upd f k { f k with sent := xs }) :=
  h.set_ hk 3 (by omega) _ _ fun a b c h1 h2 h3 => ⟨v, b, c, fun i hi => rfl, hv, h2, h3⟩
theorem Each.inn (h : Each w g f) (hk : k < 8) {v : Value} {xs : List (List (Int × Int))} (hv : SliceOn Rep.msg.slice false w (butS w g) v xs) : Each (w.setCell ⟨g, k * 6 + 4, none⟩ v) g (upd f k { f k with inn := xs }) :=
  h.set_ hk 4 (by omega) _ _ fun a b c h1 h2 h3 => ⟨a, v, c, fun i hi => rfl, h1, hv, h3⟩
theorem Each.out (h : Each w g f) (hk : k < 8) {v : Value} {xs : List (List Int)} (hv : SliceOn Rep.int.slice false w (butS w g) v xs) : Each (w.setCell ⟨g, k * 6 + 5, none⟩ v) g (upd f k { f k with out := xs }) :=
  h.set_ hk 5 (by omega) _ _ fun a b c h1 h2 h3 => ⟨a, b, v, fun i hi => rfl, h1, h2, hv⟩
end
/-- Elements 0 .. m-1 may not be; the others are as they were. -/
def EachTo (w : World) (g m : Nat) (p : Pc.Piece) : Prop := ∃ f, Each w g f ∧ (∀ i, i < m → Pc.right (f i) = false) ∧ ∀ i, m ≤ i → f i = p
section
variable {w w' : World} {g m : Nat} {p q : Pc.Piece}
theorem EachTo.next (h : EachTo w g m p) (hb : Below w.heap.size w w') : EachTo w' g m p := by obtain ⟨f, h1, h2, h3⟩ := h; exact ⟨f, h1.next hb, h2, h3⟩
theorem EachTo.lt (h : EachTo w g m p) : g < w.heap.size := by obtain ⟨f, h1, _⟩ := h; exact h1.lt
theorem EachTo.free (h : EachTo w g m p) (o : Nat) : w.frozen? ⟨g, o, none⟩ = false := by obtain ⟨f, h1, _⟩ := h; exact h1.free o
theorem EachTo.push (h : EachTo w g m p) (he : ∀ f, Each w g f → f m = p → Each w' g (upd f m q)) (hq : Pc.right q = false) : EachTo w' g (m + 1) p := by
  obtain ⟨f, h1, h2, h3⟩ := h
  refine ⟨_, he f h1 (h3 m (Nat.le_refl _)), fun i hi => ?_, fun i hi => ?_⟩
  · by_cases him : i = m
    · subst him; rw [upd_at]; exact hq
    · rw [upd_ne _ _ him]; exact h2 i (by omega)
  · rw [upd_ne _ _ (by omega)]; exact h3 i (by omega)
theorem EachTo.node (h : EachTo w g m p) (hm : m < 8) (x : Int) (hq : Pc.right { p with node := x } = false) : EachTo (w.setCell ⟨g, m * 6 + 0, none⟩ (.int .i64 x)) g (m + 1) p :=
  h.push (fun f h1 h2 => by have := h1.node hm x; rwa [h2] at this) hq
theorem EachTo.state (h : EachTo w g m p) (hm : m < 8) (x : Int) (hq : Pc.right { p with state := x } = false) : EachTo (w.setCell ⟨g, m * 6 + 1, none⟩ (.int .i64 x)) g (m + 1) p :=
  h.push (fun f h1 h2 => by have := h1.state hm x; rwa [h2] at this) hq
theorem EachTo.steps (h : EachTo w g m p) (hm : m < 8) (x : Int) (hq : Pc.right { p with steps := x } = false) : EachTo (w.setCell ⟨g, m * 6 + 2, none⟩ (.int .i64 x)) g (m + 1) p :=
  h.push (fun f h1 h2 => by have := h1.steps hm x; rwa [h2] at this) hq
theorem EachTo.sent (h : EachTo w g m p) (hm : m < 8) {v : Value} {xs : List Int} (hv : SliceOn Rep.int false w (butS w g) v xs) (hq : Pc.right { p with sent := xs } = false) : EachTo (w.setCell ⟨g, m * 6 + 3, none⟩ v) g (m + 1) p :=
  h.push (fun f h1 h2 => by have := h1.sent hm hv; rwa [h2] at this) hq
theorem EachTo.inn (h : EachTo w g m p) (hm : m < 8) {v : Value} {xs : List (List (Int × Int))} (hv : SliceOn Rep.msg.slice false w (butS w g) v xs) (hq : Pc.right { p with inn := xs } = false) : EachTo (w.setCell ⟨g, m * 6 + 4, none⟩ v) g (m + 1) p :=
  h.push (fun f h1 h2 => by have := h1.inn hm hv; rwa [h2] at this) hq
theorem EachTo.out (h : EachTo w g m p) (hm : m < 8) {v : Value} {xs : List (List Int)} (hv : SliceOn Rep.int.slice false w (butS w g) v xs) (hq : Pc.right { p with out := xs } = false) : EachTo (w.setCell ⟨g, m * 6 + 5, none⟩ v) g (m + 1) p :=
  h.push (fun f h1 h2 => by have := h1.out hm hv; rwa [h2] at this) hq
end
theorem Src.ofOn {α : Type} {r : Rep α} {fr : Bool} {w : World} {S : Nat → Prop} {A : Option Addr} {xs : List α} (h : AtOn r fr w S A xs) :
    ∃ news, news.length = xs.length * r.size ∧ r.all fr w S news xs ∧ Src w A xs.length news := by
  obtain ⟨cells, h1, h2⟩ := h
  refine ⟨cells, Rep.all_len h1, h1, fun hn => ?_⟩
  obtain ⟨g, o, rfl, _, h3⟩ := h2 hn
  exact ⟨g, o, rfl, fun j u hj => (h3 j u hj).1⟩
section
variable {P : Program} {w : World} {ops : Array Oper} {rest : List Oper} {o : Oper} {a : Act} {Q : Exit → Act → World → Prop}
/-- 'append(s, x...)', x a slice that reads as a list in the blocks S. -/
theorem wpList_appendOn {α : Type} {r : Rep α} {fr : Bool} {S : Nat → Prop} {ys : List α} (hgd : o.guard = none) (s x : Operand) (t : TypeId) (ho : o.op = .call { callee := .builtin .append, args := #[s, x], argTypes := #[t, t] })
    (base : Nat) (e : TypeId) {z : Value} {bytes : Nat} (hinfo : (P.info? e).map (fun i => (i.zero, i.size, i.bytes)) = some (some z, r.size, bytes)) (ht : P.underlying t = some (.slice e))
    (hzs : z.cells.size = r.size) (v : Value) (n : Nat) (xs : List Value) (hs : a.eval s = v) (hown : w.ownsRow base e r.size v n xs)
    (A : Option Addr) (c : Nat) (hx : a.eval x = .slice A ys.length c) (hr : AtOn r fr w S A ys)
    (h63 : n + ys.length ≤ maxLen) (hbytes : (n + ys.length) * bytes ≤ 140737488355328) (hbase : base ≤ w.heap.size)
    (h : ∀ v' w' news, r.all fr w S news ys → w'.ownsRow base e r.size v' (n + ys.length) (xs ++ news) → w.grownBy w' v.ownBlock → Below base w w' → (v'.ownBlock = v.ownBlock ∨ v'.ownBlock = some w.heap.size) → wpList P ops Q rest (a.put o.dst v') w') : wpList P ops Q (o :: rest) a w := by
  obtain ⟨news, h1, h2, h3⟩ := Src.ofOn hr
  exact wpList_plain hgd fun _ hK => wp_append_src s x t ho base e hinfo ht hzs r.pos v n xs hs hown A ys.length c news hx h1 h3 (Rep.all_one h2) h63 hbytes hbase fun v' w' k1 k2 k3 k4 => hK _ _ (h v' w' news h2 k1 k2 k3 k4)
end
section
variable {p : Pc.Piece}
end
end Go.Proofs.Ytkkbblpofhenpaa

/- Lists of the call's own whose numbers are written over. -/
namespace Go.Proofs.Ytkkbblpofhenpaa
open Go.RowKit

/-- w' is w, but for numbers in the blocks lo .. hi. -/
structure Scr (lo hi : Nat) (w w' : World) : Prop where
  low : Below lo w w'
  size : w'.heap.size = w.heap.size
  high : ∀ b, hi ≤ b → w'.heap[b]? = w.heap[b]?
  slices : ∀ b o A n c, w.cell? ⟨b, o, none⟩ = some (.slice A n c) → w'.cell? ⟨b, o, none⟩ = some (.slice A n c)
  ints : ∀ b o x, w.cell? ⟨b, o, none⟩ = some (.int .i64 x) → ∃ y, w'.cell? ⟨b, o, none⟩ = some (.int .i64 y)
  free : ∀ b o, w'.frozen? ⟨b, o, none⟩ = w.frozen? ⟨b, o, none⟩
section
variable {lo hi : Nat} {w w' : World}
theorem Scr.refl (lo hi : Nat) (w : World) : Scr lo hi w w := ⟨Below.refl _ _, rfl, fun _ _ => rfl, fun _ _ _ _ _ h => h, fun _ _ x h => ⟨x, h⟩, fun _ _ => rfl⟩
theorem Scr.set_ (h : Scr lo hi w w') {b o : Nat} {y : Int} (hc : w'.cell? ⟨b, o, none⟩ = some (.int .i64 y)) (h1 : lo ≤ b) (h2 : b < hi) (z : Int) : Scr lo hi w (w'.setCell ⟨b, o, none⟩ (.int .i64 z)) := by
  refine ⟨h.low.setCell h1 _, by rw [← h.size]; simp [World.setCell], fun k hk => (heap_setCell_other _ _ _ _ (by show k ≠ b; omega)).trans (h.high k hk), fun b' o' A n c hs => ?_, fun b' o' x hx => ?_, fun b' o' => ?_⟩
  · have h3 := h.slices b' o' A n c hs
    by_cases hb : b' = b
    · subst hb
      by_cases ho : o' = o
      · subst ho; rw [hc] at h3; cases h3
      · rw [setCell_ne ho]; exact h3
    · rw [cell_of_block (heap_setCell_other _ _ _ _ hb)]; exact h3
  · obtain ⟨y', h3⟩ := h.ints b' o' x hx
    by_cases hb : b' = b
    · subst hb
      by_cases ho : o' = o
      · subst ho; exact ⟨z, setCell_at h3⟩
      · exact ⟨y', by rw [setCell_ne ho]; exact h3⟩
    · exact ⟨y', by rw [cell_of_block (heap_setCell_other _ _ _ _ hb)]; exact h3⟩
  · by_cases hb : b' = b
    · subst hb; exact setCell_free.trans (h.free _ _)
    · exact (frozen_of_block (heap_setCell_other _ _ _ _ hb)).trans (h.free _ _)
theorem Scr.box (h : Scr lo hi w w') {b : Nat} {cs : Array Value} {T : TypeId} (hb : Box w b cs T) (ho : b < lo ∨ hi ≤ b) : Box w' b cs T := by
  rcases ho with ho | ho
  · exact (h.low.block b ho).trans hb
  · exact (h.high b ho).trans hb
theorem Scr.piece {fr : Bool} {l l' : Nat} {v : Value} {p : Pc.Piece} (h : Scr lo hi w w') (hp : PieceIs fr w l l' v p) (ho : l' ≤ lo ∨ hi ≤ l) : PieceIs fr w' l l' v p := by
  rcases ho with ho | ho
  · exact hp.keep fun b _ h2 => h.low.block b (by omega)
  · exact hp.keep fun b h1 _ => h.high b (by omega)
end
section
variable {P : Program} {Q : Exit → Act → World → Prop} {md : Region.Mode}
/-- Three may come up. -/
theorem wpAny_threeM (i j k m1 m2 m3 : Nat) {M : Nat} {wM : World} {l : List Oper} {fuel mask : Nat} {a : Act} {w : World} (hin : edgesIn l = true) (hr : (readyM mask (l.map (edgeMask md)) 0 == [i, j, k]) = true) (hil : i < l.length) (hjl : j < l.length) (hkl : k < l.length) (hm1 : mask ||| 2 ^ i = m1) (hm2 : mask ||| 2 ^ j = m2) (hm3 : mask ||| 2 ^ k = m3)
    (h1 : wpList P l.toArray (stepQ fun a w => (M.testBit i = true → Ext wM w) ∧ wpAnyM P md l.toArray Q M wM fuel (arrM l.length m1) a w) [l.getD i default] a w)
    (h2 : wpList P l.toArray (stepQ fun a w => (M.testBit j = true → Ext wM w) ∧ wpAnyM P md l.toArray Q M wM fuel (arrM l.length m2) a w) [l.getD j default] a w)
    (h3 : wpList P l.toArray (stepQ fun a w => (M.testBit k = true → Ext wM w) ∧ wpAnyM P md l.toArray Q M wM fuel (arrM l.length m3) a w) [l.getD k default] a w) : wpAnyM P md l.toArray Q M wM (fuel + 1) (arrM l.length mask) a w := by
  subst hm1 hm2 hm3
  have hr' := beq_iff_eq.1 hr
  rw [← ready_arrM l mask hin] at hr'
  refine wpAnyM_all hr' (by simp) (fun x hx => ?_)
  simp only [List.mem_cons, List.not_mem_nil, or_false] at hx
  rcases hx with rfl | rfl | rfl
  · exact oneM hil h1
  · exact oneM hjl h2
  · exact oneM hkl h3
theorem name_any {M : Nat} {wM : World} {ops : Array Oper} {fuel : Nat} {li : Array Bool} {a : Act} {w : World} (h : ∀ W, w = W → wpAnyM P md ops Q M wM fuel li a W) : wpAnyM P md ops Q M wM fuel li a w := h w rfl
end
/-- A piece in blocks that are there. -/
def Fix (w : World) (lo hi : Nat) (v : Value) (p : Pc.Piece) : Prop := PieceIs true w lo hi v p ∧ hi ≤ w.heap.size
theorem Fix.next {w w' : World} {lo hi : Nat} {v : Value} {p : Pc.Piece} (h : Fix w lo hi v p) (hb : Below w.heap.size w w') : Fix w' lo hi v p := ⟨h.1.below hb h.2, Nat.le_trans h.2 hb.size⟩
/-- Two boxes: a copy in blocks of its own; another one. -/
def Sides (p : Pc.Piece) (W1 : World) (u9 u10 : Value) (w : World) : Prop :=
  ∃ (b9 b10 lo9 hi9 lo10 hi10 : Nat) (A3 A4 A5 B3 B4 B5 : Option Addr) (a3 a4 a5 c3 c4 c5 : Nat), u9 = .pointer (some ⟨b9, 0, none⟩) ∧ u10 = .pointer (some ⟨b10, 0, none⟩) ∧
    Box w b9 #[.int .i64 p.node, .int .i64 p.state, .int .i64 p.steps, .slice A3 p.sent.length a3, .slice A4 p.inn.length a4, .slice A5 p.out.length a5] 79 ∧
    Box w b10 #[.int .i64 p.node, .int .i64 p.state, .int .i64 p.steps, .slice B3 p.sent.length c3, .slice B4 p.inn.length c4, .slice B5 p.out.length c5] 79 ∧
    PieceIs true w lo9 hi9 (.agg #[.int .i64 p.node, .int .i64 p.state, .int .i64 p.steps, .slice A3 p.sent.length a3, .slice A4 p.inn.length a4, .slice A5 p.out.length a5]) p ∧
    PieceIs true w lo10 hi10 (.agg #[.int .i64 p.node, .int .i64 p.state, .int .i64 p.steps, .slice B3 p.sent.length c3, .slice B4 p.inn.length c4, .slice B5 p.out.length c5]) p ∧
    W1.heap.size ≤ lo9 ∧ hi9 ≤ lo10 ∧ hi10 ≤ w.heap.size ∧ (b9 < lo9 ∨ hi9 ≤ b9) ∧ (b10 < lo9 ∨ hi9 ≤ b10) ∧ Below W1.heap.size W1 w
theorem Sides.of {p : Pc.Piece} {W1 w : World} {b9 b10 lo9 hi9 lo10 hi10 : Nat} {z0 z1 z2 z3 z4 z5 y0 y1 y2 y3 y4 y5 : Value} {A3 A4 A5 B3 B4 B5 : Option Addr} {a3 a4 a5 c3 c4 c5 : Nat} (x9 : Box w b9 #[z0, z1, z2, z3, z4, z5] 79) (x10 : Box w b10 #[y0, y1, y2, y3, y4, y5] 79)
    (ha : Fix w lo9 hi9 (.agg #[.int .i64 p.node, .int .i64 p.state, .int .i64 p.steps, .slice A3 p.sent.length a3, .slice A4 p.inn.length a4, .slice A5 p.out.length a5]) p)
    (hb : Fix w lo10 hi10 (.agg #[.int .i64 p.node, .int .i64 p.state, .int .i64 p.steps, .slice B3 p.sent.length c3, .slice B4 p.inn.length c4, .slice B5 p.out.length c5]) p)
    (hne : b9 ≠ b10) (d1 : b9 < lo9 ∨ hi9 ≤ b9) (d2 : b9 < lo10 ∨ hi10 ≤ b9) (d3 : b10 < lo9 ∨ hi9 ≤ b10) (d4 : b10 < lo10 ∨ hi10 ≤ b10) (h1 : W1.heap.size ≤ b9) (h2 : W1.heap.size ≤ b10) (h3 : W1.heap.size ≤ lo9) (h4 : hi9 ≤ lo10) (hB : Below W1.heap.size W1 w) :
    Sides p W1 (.pointer (some ⟨b9, 0, none⟩)) (.pointer (some ⟨b10, 0, none⟩)) (wsix (wsix w b9 (.int .i64 p.node) (.int .i64 p.state) (.int .i64 p.steps) (.slice A3 p.sent.length a3) (.slice A4 p.inn.length a4) (.slice A5 p.out.length a5)) b10 (.int .i64 p.node) (.int .i64 p.state) (.int .i64 p.steps) (.slice B3 p.sent.length c3) (.slice B4 p.inn.length c4) (.slice B5 p.out.length c5)) := by
  refine ⟨b9, b10, lo9, hi9, lo10, hi10, A3, A4, A5, B3, B4, B5, a3, a4, a5, c3, c4, c5, rfl, rfl, (six_box x9).six_far hne, six_box (x10.six_far (Ne.symm hne)), ?_, ?_, h3, h4, by rw [six_size, six_size]; exact hb.2, d1, d3, six_below' (six_below' hB h1) h2⟩
  · exact (ha.1.keep fun b k1 k2 => six_far (b := b9) (by omega)).keep fun b k1 k2 => six_far (b := b10) (by omega)
  · exact (hb.1.keep fun b k1 k2 => six_far (b := b9) (by omega)).keep fun b k1 k2 => six_far (b := b10) (by omega)
end Go.Proofs.Ytkkbblpofhenpaa

/- The law's Ref of a frame: what it leads to lies where the frame's lists lie, or is new. -/
namespace Go.Proofs.Ytkkbblpofhenpaa
open Go.RowKit

/-- v: a row of the call's own, in blocks from B on, whose elements lead to blocks ahead of hi. -/
def TopL {α : Type} (r : Rep α) (e : TypeId) (lo hi B : Nat) (w : World) (v : Value) (xs : List α) : Prop :=
  ∃ cells, w.ownsRow B e r.size v xs.length cells ∧ r.all false w (rng lo hi) cells xs
section
variable {α : Type} {r : Rep α} {e : TypeId} {lo hi B : Nat} {w w' : World} {v : Value} {xs : List α}
theorem TopL.next (h : TopL r e lo hi B w v xs) (hb : Below w.heap.size w w') (hB : hi ≤ w.heap.size) : TopL r e lo hi B w' v xs := by
  obtain ⟨cells, h1, h2⟩ := h
  exact ⟨cells, own_below h1 hb, Rep.all_keep (fun b hb' => hb.block b (Nat.lt_of_lt_of_le hb'.2 hB)) h2⟩
theorem TopL.slice (h : TopL r e lo hi B w v xs) : SliceOn r false w (fun b => (lo ≤ b ∧ b < hi) ∨ (B ≤ b ∧ b < w.heap.size)) v xs := by
  obtain ⟨cells, h1, h2⟩ := h
  exact SliceOn.of_own (base := B) (e := e) h1 (Rep.all_widen (fun b hb => .inl hb) h2) (fun g hg => .inr (h1.lt g hg))
theorem TopL.empty (r : Rep α) (e : TypeId) (lo hi : Nat) (w : World) : TopL r e lo hi w.heap.size (w.alloc (.cells #[] e)) (.slice (some ⟨w.heap.size, 0, none⟩) 0 0) [] :=
  ⟨[], own_lit (size := r.size) w.heap.size e 0 [] (by simp) (Nat.le_refl _) (by unfold maxLen; omega), rfl⟩
end
section
variable {P : Program} {w : World} {ops : Array Oper} {rest : List Oper} {o : Oper} {a : Act} {Q : Exit → Act → World → Prop}
theorem wpList_topL {α : Type} {r : Rep α} {xs : List α} {y : α} (hgd : o.guard = none) (s x : Operand) (t : TypeId) (ho : o.op = .call { callee := .builtin .append, args := #[s, x], argTypes := #[t, t] })
    (B : Nat) (e : TypeId) {z : Value} {bytes : Nat} (hinfo : (P.info? e).map (fun i => (i.zero, i.size, i.bytes)) = some (some z, r.size, bytes)) (ht : P.underlying t = some (.slice e))
    (hzs : z.cells.size = r.size) (hby : bytes ≤ 1000) (v : Value) (hs : a.eval s = v) {lo hi : Nat} (hrow : TopL r e lo hi B w v xs) (hB : B ≤ w.heap.size) (hhi : hi ≤ B)
    (c H : Nat) (cs : List Value) (hx : a.eval x = .slice (some ⟨H, 0, none⟩) 1 c) (hH : w.heap.size = H) (hcs : r.is false w (rng lo hi) cs y) (hn : xs.length ≤ 1000000)
    (h : ∀ v' w', TopL r e lo hi B w' v' (xs ++ [y]) → Below B w w' → wpList P ops Q rest (a.put o.dst v') w') : wpList P ops Q (o :: rest) a (w.alloc (.cells cs.toArray e)) := by
  obtain ⟨cells, h1, h2⟩ := hrow
  refine wpList_appendB hgd s x t ho B e hinfo ht hzs r.pos v xs.length cells hs h1 1 c H cs hx hH (by rw [r.len hcs]; omega) (r.one hcs) (by unfold maxLen; omega) (Nat.le_trans (Nat.mul_le_mul (show xs.length + 1 ≤ 1000001 by omega) hby) (by omega)) hB ?_
  intro v' w' k1 _ k3 _
  have hk : ∀ b, rng lo hi b → w'.heap[b]? = w.heap[b]? := fun b hb => k3.block b (Nat.lt_of_lt_of_le hb.2 hhi)
  exact h v' w' ⟨cells ++ cs, by rw [List.length_append]; exact k1, Rep.all_snoc (Rep.all_keep hk h2) (r.keep hcs hk)⟩ k3
end

set_option maxRecDepth 100000 in
set_option maxHeartbeats 2000000 in
theorem refsl_any (v : Value) (ps : List Pc.Piece) (w : World) {lo hi : Nat} (h : SliceIs Rep.piece false w lo hi v ps) (hhi : hi ≤ w.heap.size) (hn : ps.length ≤ 1000000) : Calls Try.prog 62 #[v] w
    fun y w' => (∃ u, y = .returned u ∧ SliceOn Rep.piece false w' (fun b => (lo ≤ b ∧ b < hi) ∨ (w.heap.size ≤ b ∧ b < w'.heap.size)) u ps) ∧ Below w.heap.size w w' := by
  obtain ⟨A, c, rfl, l1, m1, h1⟩ := h
  unfold maxLen at m1
  go_enter Try.func62, Try.ntmps62
  go_wp2_with fail
  go_loopg [3, 4] ps.length (fun k u i wr => ∃ j : Nat, i = .int .i64 (j : Int) ∧ j ≤ ps.length ∧ k = ps.length - j ∧ TopL Rep.piece 84 lo hi w.heap.size wr u (ps.take j) ∧ Below w.heap.size w wr)
  case atStart => exact ⟨0, rfl, by omega, by omega, TopL.empty _ _ _ _ _, (Below.refl _ _).alloc (Nat.le_refl _) _⟩
  case round =>
    obtain ⟨j, rfl, hj, hk, ht, hb⟩ := hrel
    have HK := Lib.hid hk; clear hk
    by_cases hlt : j < ps.length
    · obtain ⟨x, hx⟩ := Pc.get_at hlt
      obtain ⟨g, o, a3, a4, a5, rfl, _, hg, c0, c1, c2, c3, c4, c5, hp⟩ := (h1.below hb hhi).piece hx
      have htk := Pc.take_next hx
      have HT := Lib.hid htk; clear htk hx h1
      obtain ⟨_, _, _, he, ⟨A3, k3, rfl, _⟩, ⟨A4, k4, rfl, _⟩, ⟨A5, k5, rfl, _⟩⟩ := id hp
      cases he
      have hpw := hp.widen (Nat.zero_le _) (Nat.le_trans hhi hb.size)
      have HP := Lib.hid hp; have HPW := Lib.hid hpw; clear hp hpw
      have hnl : (ps.take j).length ≤ 1000000 := by rw [List.length_take]; omega
      go_wp2_with fail
      clear c0 c1 c2 c3 c4 c5
      refine (ref_any _ x _ HPW.out).mono ?_
      rintro e w1 ⟨rfl, hb1⟩
      have ht1 := ht.next hb1 (Nat.le_trans hhi hb.size)
      have hp1 := HP.out.below (hb1.mono hb.size) hhi
      obtain ⟨cs, hcv, hcs⟩ := hp1.cells
      have hce : cs = [.int .i64 x.node, .int .i64 x.state, .int .i64 x.steps, .slice A3 x.sent.length k3, .slice A4 x.inn.length k4, .slice A5 x.out.length k5] := by
        injection hcv with hcv
        have := congrArg Array.toList hcv
        simpa using this.symm
      subst hce
      have HC := Lib.hid hcs; clear hcs hcv hp1 ht
      replace hb := hb.trans (hb1.mono hb.size)
      clear hb1 HP HPW
      go_wp2_with (at_builtin; refine wpList_topL (r := Rep.piece) (y := x) rfl (.tmp 12) (.tmp 18) 46 rfl w.heap.size 84 Try.infoRPiece Try.underlying46 rfl (by omega) _ rfl ht1 hb.size hhi 1 _ _ rfl rfl HC.out hnl ?_; intro v2 w2 hnew hb3)
      rw [← HT.out] at hnew
      go_roundg (ps.length - (j + 1))
      case rel => exact ⟨j + 1, by simp, by omega, rfl, hnew, hb.trans hb3⟩
      case measure => have := HK.out; omega
    · rw [List.take_of_length_le (by omega)] at ht
      have hs := ht.slice
      have HS := Lib.hid hs; clear hs ht
      go_wp2_with fail
      go_ret
      exact ⟨⟨_, rfl, HS.out⟩, hb⟩
/-- A frame by value whose lists lie in the blocks S. -/
def FrOn (fr : Bool) (w : World) (S : Nat → Prop) (v : Value) (f : Fr) : Prop :=
  ∃ A B k l, v = .agg #[.int .i64 f.kind, .int .i64 f.epoch, .int .i64 f.seq, .int .i64 f.letter, .slice A f.pieces.length k, .int .i64 f.init, .int .i64 f.num, .int .i64 f.count, .slice B f.path.length l] ∧
    SliceOn Rep.piece fr w S (.slice A f.pieces.length k) f.pieces ∧ SliceOn Rep.int fr w S (.slice B f.path.length l) f.path
set_option maxRecDepth 100000 in
set_option maxHeartbeats 4000000 in
theorem frrefl_any (lo hi : Nat) (v : Value) (f : Fr) (w : World) (hlo : hi ≤ w.heap.size) (h : FrIs false w lo hi v f) (hn : f.pieces.length ≤ 1000000) : Calls Try.prog 21 #[v] w
    fun z w' => (∃ u, z = .returned u ∧ FrOn false w' (fun b => (lo ≤ b ∧ b < hi) ∨ (w.heap.size ≤ b ∧ b < w'.heap.size)) u f) ∧ Below w.heap.size w w' := by
  obtain ⟨k, e, s, t, ps, i, n, c, p⟩ := f
  obtain ⟨A, B, x, y, rfl, h1, h2⟩ := h
  dsimp only at h1 h2 hn ⊢
  go_enter Try.func21, Try.ntmps21
  go_upto_region 1 with fail
  refine name_wp fun W0 hW0 => ?_
  have bx : Box W0 w.heap.size #[.int .i64 k, .int .i64 e, .int .i64 s, .int .i64 t, .slice A ps.length x, .int .i64 i, .int .i64 n, .int .i64 c, .slice B p.length y] 37 := hW0 ▸ (Box.at' _ _ rfl).alloc _
  have b2 : Box W0 (w.heap.size + 1) #[.int .i64 0, .int .i64 0, .int .i64 0, .int .i64 0, .slice none 0 0, .int .i64 0, .int .i64 0, .int .i64 0, .slice none 0 0] 48 := hW0 ▸ Box.at' _ _ (by simp)
  have hB : Below w.heap.size w W0 := hW0 ▸ ((Below.refl _ _).alloc (Nat.le_refl _) _).alloc (by simp) _
  have hP := h1.below hB hlo; have hQ := h2.below hB hlo
  have hE2 : w.heap.size + 1 < W0.heap.size := hW0 ▸ (by simp)
  have HE2 := Lib.hid hE2; clear hE2
  clear hW0 h1 h2
  have hne : w.heap.size ≠ w.heap.size + 1 := by omega
  have hE0 := hB.size
  replace hP := hP.below ((Below.refl w.heap.size W0).drew) hlo; replace hQ := hQ.below ((Below.refl w.heap.size W0).drew) hlo
  replace bx := bx.next ((Below.refl _ _).drew)
  replace b2 := b2.next ((Below.refl _ _).drew)
  replace hB := hB.drew
  have hE := Ext.refl (W0.drew)
  refine region_go 256 (by kernel_rfl) ?_
  obtain ⟨d0, d1, d2, d3, d4, d5, d6, d7, d8⟩ := nine_cells bx
  refine wpAny_go 256 0 [6, 7] 192 17 (by kernel_rfl) (by kernel_rfl) (fun _ _ _ _ _ h => h) (by kernel_rfl) (by rfl) (by rfl) (by kernel_rfl) ?_
  simp only [List.map_cons, List.map_nil, List.getD_cons_succ, List.getD_cons_zero]
  go_wp2_with fail
  change wpAnyM _ _ _ _ _ _ _ _ _ _
  refine wpAny_reads 256 192 [0, 1, 2, 3, 4, 5, 9, 10, 11, 12, 13, 14, 15, 16] 130815 3 (by kernel_rfl) (by kernel_rfl) (fun _ _ _ _ _ h => h) (by kernel_rfl) (by rfl) (by rfl) (by kernel_rfl) ?_
  simp only [List.map_cons, List.map_nil, List.getD_cons_succ, List.getD_cons_zero]
  go_wp2_with fail
  change _ → wpAnyM _ _ _ _ _ _ _ _ _ _; intro _
  clear d0 d1 d2 d3 d4 d5 d6 d7 d8
  refine wpAny_oneM 8 131071 (by kernel_rfl) (by kernel_rfl) (of_decide_eq_true (by kernel_rfl)) (by rfl) ?_
  simp only [List.getD_cons_succ, List.getD_cons_zero]
  go_wp2_with fail
  refine (refsl_any _ ps _ hP (Nat.le_trans hlo hE0) hn).mono ?_
  rintro e w1 ⟨⟨u, rfl, hu⟩, hb⟩
  replace hQ := hQ.below (hb.mono hE0) hlo
  replace bx := bx.next hb
  replace b2 := b2.next hb
  replace hE := hE.trans (Ext.below hb (Nat.le_refl _))
  replace hB := hB.trans (hb.mono hB.size)
  clear hb
  obtain ⟨A2, x2, rfl, _⟩ := id hu
  go_wp2_with fail
  refine ⟨fun _ => hE, ?_⟩
  obtain ⟨g0, g1, g2, g3, g4, g5, g6, g7, g8⟩ := nine_cells b2
  obtain ⟨f0, f1, f2, f3, f4, f5, f6, f7, f8⟩ := nine_free b2
  refine wpAny_go 256 131071 [17, 18] 524287 0 (by kernel_rfl) (by kernel_rfl) (fun _ _ _ _ _ h => h) (by kernel_rfl) (by rfl) (by rfl) (by kernel_rfl) ?_
  simp only [List.map_cons, List.map_nil, List.getD_cons_succ, List.getD_cons_zero]
  go_wp2_with fail
  change wpAnyM _ _ _ _ _ _ _ _ _ _
  clear g0 g1 g2 g3 g4 g5 g6 g7 g8 f0 f1 f2 f3 f4 f5 f6 f7 f8
  refine nameAny fun V hV => ?_
  have b3 : Box V (w.heap.size + 1) #[.int .i64 k, .int .i64 e, .int .i64 s, .int .i64 t, .slice A2 ps.length x2, .int .i64 i, .int .i64 n, .int .i64 c, .slice B p.length y] 48 := by rw [← hV]; exact nine_box b2
  have hBV : Below w.heap.size w V := by rw [← hV]; exact nine_below hB (Nat.le_succ _)
  have hs9 : V.heap.size = w1.heap.size := by rw [← hV]; exact nine_size
  have hk9 : ∀ q, q ≠ w.heap.size + 1 → V.heap[q]? = w1.heap[q]? := fun q hq => by rw [← hV]; exact nine_far hq
  have hb2l := b2.lt
  have hD : W0.drew.heap.size = W0.heap.size := by simp
  have hE3 := HE2.out
  have hfu : FrOn false V (fun b => (lo ≤ b ∧ b < hi) ∨ (w.heap.size ≤ b ∧ b < V.heap.size)) (.agg #[.int .i64 k, .int .i64 e, .int .i64 s, .int .i64 t, .slice A2 ps.length x2, .int .i64 i, .int .i64 n, .int .i64 c, .slice B p.length y]) ⟨k, e, s, t, ps, i, n, c, p⟩ := ⟨A2, B, x2, y, rfl, (hu.keep fun q hq => hk9 q (by omega)).widen fun q hq => by omega, (SliceOn.keep hQ fun q hq => hk9 q (by have := hq.2; omega)).widen fun q hq => .inl hq⟩
  clear hD hE3
  refine wpAny_endM (by kernel_rfl) (by kernel_rfl) ?_
  obtain ⟨g0, g1, g2, g3, g4, g5, g6, g7, g8⟩ := nine_cells b3
  go_wp2_with fail
  refine bodyPost_ret (v := .agg #[.int .i64 k, .int .i64 e, .int .i64 s, .int .i64 t, .slice A2 ps.length x2, .int .i64 i, .int .i64 n, .int .i64 c, .slice B p.length y]) (by simp [results, Try.results21, g0, g1, g2, g3, g4, g5, g6, g7, g8, go_sem]) rfl ⟨⟨_, rfl, hfu⟩, hBV⟩
end Go.Proofs.Ytkkbblpofhenpaa

/- Frames whose lists' numbers are written over. Nothing of the program. -/
namespace Go.Proofs.Ytkkbblpofhenpaa
open Go.RowKit

section
variable {lo hi : Nat} {w w' : World}
theorem Scr.fr {fr : Bool} {l l' : Nat} {v : Value} {f : Fr} (h : Scr lo hi w w') (hf : FrIs fr w l l' v f) (ho : l' ≤ lo ∨ hi ≤ l) : FrIs fr w' l l' v f :=
  hf.keep fun b h1 h2 => by
    rcases ho with ho | ho
    · exact h.low.block b (by omega)
    · exact h.high b (by omega)
end
/-- A frame in blocks that are there. -/
def FixF (fr : Bool) (w : World) (lo hi : Nat) (v : Value) (f : Fr) : Prop := FrIs fr w lo hi v f ∧ hi ≤ w.heap.size
theorem FixF.next {fr : Bool} {w w' : World} {lo hi : Nat} {v : Value} {f : Fr} (h : FixF fr w lo hi v f) (hb : Below w.heap.size w w') : FixF fr w' lo hi v f := ⟨h.1.keep fun b _ q => hb.block b (Nat.lt_of_lt_of_le q h.2), Nat.le_trans h.2 hb.size⟩
/-- A frame whose lists lie in the blocks S, which are there. -/
def FixS (w : World) (S : Nat → Prop) (v : Value) (f : Fr) : Prop := FrOn false w S v f ∧ ∀ b, S b → b < w.heap.size
theorem FixS.next {w w' : World} {S : Nat → Prop} {v : Value} {f : Fr} (h : FixS w S v f) (hb : Below w.heap.size w w') : FixS w' S v f := by
  obtain ⟨⟨A, B, k, l, rfl, h1, h2⟩, h3⟩ := h
  exact ⟨⟨A, B, k, l, rfl, h1.keep fun b q => hb.block b (h3 b q), h2.keep fun b q => hb.block b (h3 b q)⟩, fun b q => Nat.lt_of_lt_of_le (h3 b q) hb.size⟩
/-- Two boxes: a frame whose lists lie in blocks of their own; the same frame, elsewhere. -/
def Sides7 (p : Fr) (W1 : World) (u3 u4 : Value) (w : World) : Prop :=
  ∃ (b3 b4 lo hi lo4 hi4 : Nat) (aA aB cA cB : Option Addr) (ak al ck cl : Nat), u3 = .pointer (some ⟨b3, 0, none⟩) ∧ u4 = .pointer (some ⟨b4, 0, none⟩) ∧
    Box w b3 #[.int .i64 p.kind, .int .i64 p.epoch, .int .i64 p.seq, .int .i64 p.letter, .slice aA p.pieces.length ak, .int .i64 p.init, .int .i64 p.num, .int .i64 p.count, .slice aB p.path.length al] 37 ∧ Box w b4 #[.int .i64 p.kind, .int .i64 p.epoch, .int .i64 p.seq, .int .i64 p.letter, .slice cA p.pieces.length ck, .int .i64 p.init, .int .i64 p.num, .int .i64 p.count, .slice cB p.path.length cl] 48 ∧ FrIs true w lo hi (.agg #[.int .i64 p.kind, .int .i64 p.epoch, .int .i64 p.seq, .int .i64 p.letter, .slice aA p.pieces.length ak, .int .i64 p.init, .int .i64 p.num, .int .i64 p.count, .slice aB p.path.length al]) p ∧ FrIs false w lo4 hi4 (.agg #[.int .i64 p.kind, .int .i64 p.epoch, .int .i64 p.seq, .int .i64 p.letter, .slice cA p.pieces.length ck, .int .i64 p.init, .int .i64 p.num, .int .i64 p.count, .slice cB p.path.length cl]) p ∧
    W1.heap.size ≤ lo ∧ hi ≤ lo4 ∧ hi4 ≤ w.heap.size ∧ hi ≤ w.heap.size ∧ (b3 < lo ∨ hi ≤ b3) ∧ (b4 < lo ∨ hi ≤ b4) ∧ Below W1.heap.size W1 w
theorem Sides7.of {p : Fr} {W1 w : World} {b3 b4 lo hi : Nat} {S : Nat → Prop} {z0 z1 z2 z3 z4 z5 z6 z7 z8 y0 y1 y2 y3 y4 y5 y6 y7 y8 : Value} {aA aB cA cB : Option Addr} {ak al ck cl : Nat} (x3 : Box w b3 #[z0, z1, z2, z3, z4, z5, z6, z7, z8] 37) (x4 : Box w b4 #[y0, y1, y2, y3, y4, y5, y6, y7, y8] 48)
    (ha : FixF true w lo hi (.agg #[.int .i64 p.kind, .int .i64 p.epoch, .int .i64 p.seq, .int .i64 p.letter, .slice aA p.pieces.length ak, .int .i64 p.init, .int .i64 p.num, .int .i64 p.count, .slice aB p.path.length al]) p) (hc : FixS w S (.agg #[.int .i64 p.kind, .int .i64 p.epoch, .int .i64 p.seq, .int .i64 p.letter, .slice cA p.pieces.length ck, .int .i64 p.init, .int .i64 p.num, .int .i64 p.count, .slice cB p.path.length cl]) p)
    (hne : b3 ≠ b4) (d1 : b3 < lo ∨ hi ≤ b3) (d2 : ¬ S b3) (d3 : b4 < lo ∨ hi ≤ b4) (d4 : ¬ S b4) (h1 : W1.heap.size ≤ b3) (h2 : W1.heap.size ≤ b4) (h3 : W1.heap.size ≤ lo) (h4 : ∀ b, S b → hi ≤ b) (hB : Below W1.heap.size W1 w) :
    Sides7 p W1 (.pointer (some ⟨b3, 0, none⟩)) (.pointer (some ⟨b4, 0, none⟩)) (wnine (wnine w b3 (.int .i64 p.kind) (.int .i64 p.epoch) (.int .i64 p.seq) (.int .i64 p.letter) (.slice aA p.pieces.length ak) (.int .i64 p.init) (.int .i64 p.num) (.int .i64 p.count) (.slice aB p.path.length al)) b4 (.int .i64 p.kind) (.int .i64 p.epoch) (.int .i64 p.seq) (.int .i64 p.letter) (.slice cA p.pieces.length ck) (.int .i64 p.init) (.int .i64 p.num) (.int .i64 p.count) (.slice cB p.path.length cl)) := by
  obtain ⟨⟨_, _, _, _, he, q1, q2⟩, q3⟩ := hc
  cases he
  refine ⟨b3, b4, lo, hi, hi, w.heap.size, aA, aB, cA, cB, ak, al, ck, cl, rfl, rfl, (nine_box x3).nine_far hne, nine_box (x4.nine_far (Ne.symm hne)), ?_, ?_, h3, Nat.le_refl _, by rw [nine_size, nine_size]; exact Nat.le_refl _, by rw [nine_size, nine_size]; exact ha.2, d1, d3, nine_below (nine_below hB h1) h2⟩
  · exact (ha.1.keep fun b k1 k2 => nine_far (b := b3) (by omega)).keep fun b k1 k2 => nine_far (b := b4) (by omega)
  · have hne3 : ∀ b, S b → b ≠ b3 := fun b hb he => d2 (he ▸ hb)
    have hne4 : ∀ b, S b → b ≠ b4 := fun b hb he => d4 (he ▸ hb)
    exact ⟨_, _, _, _, rfl, SliceOn.is_ (((q1.keep fun b hb => nine_far (hne3 b hb)).keep fun b hb => nine_far (hne4 b hb)).widen fun b hb => ⟨h4 b hb, q3 b hb⟩), SliceOn.is_ (((q2.keep fun b hb => nine_far (hne3 b hb)).keep fun b hb => nine_far (hne4 b hb)).widen fun b hb => ⟨h4 b hb, q3 b hb⟩)⟩
end Go.Proofs.Ytkkbblpofhenpaa
