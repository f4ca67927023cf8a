/- Lemmas, walks and contracts that the statements of this seat are proved by. -/
import Derived.Test.YtkkbblpofhenpaaS12
/- lane.Take. -/
namespace Go.Proofs.Ytkkbblpofhenpaa
open Go.RowKit

theorem SliceIs.len_cap {α : Type} {r : Rep α} {fr : Bool} {w : World} {lo hi n c : Nat} {A : Option Addr} {xs : List α} (h : SliceIs r fr w lo hi (.slice A n c) xs) : xs.length ≤ c := by
  obtain ⟨_, _, he, h1, _⟩ := h
  cases he
  exact h1
/-- 's[k:]': the address is a term of its own. -/
theorem wpList_tailS {P : Program} {w : World} {ops : Array Oper} {rest : List Oper} {o : Oper} {a : Act} {Q : Exit → Act → World → Prop} (hgd : o.guard = none) (x lo : Operand) (t e : TypeId) (ho : o.op = .slice t x (some lo) none none) (ht : P.underlying t = some (.slice e)) (size : Nat) (hsz : (P.info? e).map (·.size) = some size)
    (g q n c k : Nat) (z : Int) (hx : a.eval x = .slice (some ⟨g, q, none⟩) n c) (hlo : a.eval lo = .int .i64 z) (hz : z = (k : Int)) (hk : k ≤ n)
    (h : ∀ AV, AV = (if c = k then some (⟨g, q, none⟩ : Addr) else some ⟨g, q + k * size, none⟩) → wpList P ops Q rest (a.put o.dst (.slice AV (n - k) (c - k))) w) : wpList P ops Q (o :: rest) a w := by
  subst hz
  refine wpList_plain hgd fun K hK => ?_
  have he : P.elem t = e := by simp [Program.elem, ht]
  have hr := run_slice_l (P := P) (w := w) t (some ⟨g, q, none⟩) n c (by rw [he]; exact ht) .i64 (k : Int) (by omega) (by omega)
  have hr2 := (run_sliceAt_slice (P := P) (w := w) t (.slice (some ⟨g, q, none⟩) n c) (some (.int .i64 k)) none none (by rw [he]; exact ht)).trans hr
  cases hq : P.info? e with
  | none => simp [hq] at hsz
  | some i =>
    have hi : i.size = size := by simpa [hq] using hsz
    unfold Oper.wp
    simp [execOp, ho, hx, hlo, hr2, he, sizeOf, typeInfo, hq, hi, sliced, Result.andThen]
    exact hK _ _ (h _ (by split <;> simp [Addr.add_lit]))
/-! ### several operations in any order: each knows that it has not come up yet -/
section
variable {P : Program} {Q : Exit → Act → World → Prop} {md : Region.Mode}
def blockSteps2 (P : Program) (md : Region.Mode) (M : Nat) (wM : World) (l : List Oper) (Inv : Nat → Act → World → Prop) : List Nat → Prop
  | [] => True
  | j :: t => (∀ m a w, m.testBit j = false → (l.map (edgeMask md)).getD j 0 &&& m = (l.map (edgeMask md)).getD j 0 → Inv m a w →
      wpList P l.toArray (stepQ fun a w => (M.testBit j = true → Ext wM w) ∧ Inv (m ||| 2 ^ j) a w) [l.getD j default] a w) ∧ blockSteps2 P md M wM l Inv t
theorem blockSteps2_nil {M : Nat} {wM : World} {l : List Oper} {Inv : Nat → Act → World → Prop} : blockSteps2 P md M wM l Inv [] := trivial
theorem blockSteps2_cons {M : Nat} {wM : World} {l : List Oper} {Inv : Nat → Act → World → Prop} {j : Nat} {t : List Nat} (h : ∀ m a w, m.testBit j = false → (l.map (edgeMask md)).getD j 0 &&& m = (l.map (edgeMask md)).getD j 0 → Inv m a w →
      wpList P l.toArray (stepQ fun a w => (M.testBit j = true → Ext wM w) ∧ Inv (m ||| 2 ^ j) a w) [l.getD j default] a w) (ht : blockSteps2 P md M wM l Inv t) : blockSteps2 P md M wM l Inv (j :: t) := ⟨h, ht⟩
theorem blockSteps2.get {M : Nat} {wM : World} {l : List Oper} {Inv : Nat → Act → World → Prop} : ∀ {S : List Nat}, blockSteps2 P md M wM l Inv S → ∀ j ∈ S, ∀ m a w, m.testBit j = false → (l.map (edgeMask md)).getD j 0 &&& m = (l.map (edgeMask md)).getD j 0 → Inv m a w →
      wpList P l.toArray (stepQ fun a w => (M.testBit j = true → Ext wM w) ∧ Inv (m ||| 2 ^ j) a w) [l.getD j default] a w := by
  intro S
  induction S with
  | nil => intro _ j hj; cases hj
  | cons i t ih =>
    intro h j hj
    rcases List.mem_cons.1 hj with rfl | hj
    · exact h.1
    · exact ih h.2 j hj
theorem wpAny_blockN (S : List Nat) (mEnd : Nat) {M : Nat} {wM : World} {l : List Oper} (Inv : Nat → Act → World → Prop) (hin : edgesIn l = true) (hS : (S.all fun j => decide (j < l.length)) = true)
    (hsteps : blockSteps2 P md M wM l Inv S)
    (fuelEnd : Nat) (hend : ∀ a w, Inv mEnd a w → wpAnyM P md l.toArray Q M wM fuelEnd (arrM l.length mEnd) a w) :
    ∀ (k m : Nat) (a : Act) (w : World), blockOK (l.map (edgeMask md)) S mEnd k m = true → Inv m a w → wpAnyM P md l.toArray Q M wM (fuelEnd + k) (arrM l.length m) a w := by
  have hstep := hsteps.get
  intro k
  induction k with
  | zero =>
    intro m a w hok hi
    obtain rfl : m = mEnd := by simpa [blockOK] using hok
    exact hend a w hi
  | succ k ih =>
    intro m a w hok hi
    simp only [blockOK, Bool.and_eq_true, Bool.not_eq_true', List.all_eq_true] at hok
    obtain ⟨hne, hall⟩ := hok
    refine wpAnyM_all (rs := readyM m (l.map (edgeMask md)) 0) (ready_arrM l m hin) (by intro e; rw [e] at hne; simp at hne) (fun j hj => ?_)
    obtain ⟨hjS, hok'⟩ := hall j hj
    have hjS' : j ∈ S := by simpa using hjS
    obtain ⟨q, em, hq, hem, hnew, hdep⟩ := mem_readyM _ _ _ _ hj
    have hqj : q = j := by omega
    subst hqj
    have hjl : q < l.length := of_decide_eq_true ((List.all_eq_true.1 hS) q hjS')
    have hge : (l.map (edgeMask md)).getD q 0 = em := by rw [List.getD, hem]; rfl
    have h := hstep q hjS' m a w hnew (by rw [hge]; exact hdep) hi
    have h' := wpOps_map l [q] a w (by simp [hjl]) h
    rw [wpOps_cons] at h'
    rw [arrM_set _ _ _ hjl]
    exact wpOp_mono (fun a' w' hh => ⟨hh.1, ih _ a' w' hok' hh.2⟩) (wpOp_stepQ h')
end
theorem bit_other {m i j : Nat} (h : i ≠ j) : (m ||| 2 ^ j).testBit i = m.testBit i := by
  rw [Nat.testBit_or, Nat.testBit_two_pow]
  simp [Ne.symm h]
theorem bit_now {m j : Nat} : (m ||| 2 ^ j).testBit j = true := by
  rw [Nat.testBit_or, Nat.testBit_two_pow]
  simp
theorem held_keep {m i j : Nat} {φ : Prop} (hne : i ≠ j) (h : Held m i φ) : Held (m ||| 2 ^ j) i φ := h.other hne (fun h => h)

/-- In the middle of Take's last statement. -/
structure TInv (W : World) (S : Nat → Prop) (N : Nat) (fi : Bool) (cp : Int) (CL FV : Array Value) (s1 s2 : Value) (ys : List Fr) (m : Nat) (x : World) (u6 u8 u18 u19 u20 : Value) : Prop where
  h6 : Held m 6 (u6 = .bool fi)
  h8 : Held m 8 (u8 = .int .i64 cp)
  h18 : Held m 18 (∃ g, u18 = .slice (some ⟨g, 0, none⟩) 2 2 ∧ N + 1 + 1 < g ∧ x.heap[g]? = some (.cells #[s1, s2] 23 (0, 0)))
  h19 : Held m 19 (∃ cells, x.ownsRow (N + 1 + 1 + 1) 37 9 u19 ys.length cells ∧ Rep.frame.all false x S cells ys)
  hS : ∀ b, S b → b < N
  bx : Box x N CL 25
  b4 : m.testBit 21 = false → Box x (N + 1) #[.int .i64 0, .int .i64 0, .int .i64 0, .int .i64 0, .slice none 0 0, .int .i64 0, .int .i64 0, .int .i64 0, .slice none 0 0] 37
  b4' : Held m 21 (Box x (N + 1) FV 37)
  b5 : Box x (N + 1 + 1) #[.bool false, .int .i64 0, .slice none 0 0] 25
  hB : Below N W x
  ext : m.testBit 21 = false → Ext W x
  ord : m.testBit 21 = true → m.testBit 19 = true
  h20 : Held m 20 (u20 = .agg #[.bool fi, .int .i64 cp, u19])
  ord2 : m.testBit 20 = true → m.testBit 19 = true
section
variable {W : World} {S : Nat → Prop} {N : Nat} {fi : Bool} {cp : Int} {CL FV : Array Value} {s1 s2 : Value} {ys : List Fr} {m : Nat} {x y : World} {u6 u8 u18 u19 u20 : Value}
theorem TInv.six (h : TInv W S N fi cp CL FV s1 s2 ys m x u6 u8 u18 u19 u20) : TInv W S N fi cp CL FV s1 s2 ys (m ||| 2 ^ 6) x (.bool fi) u8 u18 u19 u20 :=
  ⟨Held.now rfl, held_keep (by decide) h.h8, held_keep (by decide) h.h18, held_keep (by decide) h.h19, h.hS, h.bx, by rw [bit_other (by decide)]; exact h.b4, held_keep (by decide) h.b4', h.b5, h.hB, by rw [bit_other (by decide)]; exact h.ext, by rw [bit_other (by decide), bit_other (by decide)]; exact h.ord, held_keep (by decide) h.h20, by rw [bit_other (by decide), bit_other (by decide)]; exact h.ord2⟩
theorem TInv.eight (h : TInv W S N fi cp CL FV s1 s2 ys m x u6 u8 u18 u19 u20) : TInv W S N fi cp CL FV s1 s2 ys (m ||| 2 ^ 8) x u6 (.int .i64 cp) u18 u19 u20 :=
  ⟨held_keep (by decide) h.h6, Held.now rfl, held_keep (by decide) h.h18, held_keep (by decide) h.h19, h.hS, h.bx, by rw [bit_other (by decide)]; exact h.b4, held_keep (by decide) h.b4', h.b5, h.hB, by rw [bit_other (by decide)]; exact h.ext, by rw [bit_other (by decide), bit_other (by decide)]; exact h.ord, held_keep (by decide) h.h20, by rw [bit_other (by decide), bit_other (by decide)]; exact h.ord2⟩
theorem TInv.move (h : TInv W S N fi cp CL FV s1 s2 ys m x u6 u8 u18 u19 u20) (hb : Below x.heap.size x y) : TInv W S N fi cp CL FV s1 s2 ys m y u6 u8 u18 u19 u20 := by
  have hN : N ≤ x.heap.size := Nat.le_of_lt h.bx.lt
  refine ⟨h.h6, h.h8, h.h18.imp ?_, h.h19.imp ?_, h.hS, h.bx.next hb, fun q => (h.b4 q).next hb, h.b4'.imp fun q => q.next hb, h.b5.next hb, h.hB.trans (hb.mono hN), fun q => (h.ext q).trans (Ext.below hb (Nat.le_refl _)), h.ord, h.h20, h.ord2⟩
  · rintro ⟨g, e, k1, k2⟩
    exact ⟨g, e, k1, (hb.block g (lt_of_block k2)).trans k2⟩
  · rintro ⟨cells, k1, k2⟩
    exact ⟨cells, own_move k1 (fun b _ q => hb.block b q), Rep.all_keep (fun b q => hb.block b (Nat.lt_of_lt_of_le (h.hS b q) hN)) k2⟩
theorem TInv.build (h : TInv W S N fi cp CL FV s1 s2 ys m x u6 u8 u18 u19 u20) : TInv W S N fi cp CL FV s1 s2 ys (m ||| 2 ^ 18) (x.alloc (.cells #[s1, s2] 23)) u6 u8 (.slice (some ⟨x.heap.size, 0, none⟩) 2 2) u19 u20 := by
  have h' := h.move (y := x.alloc (.cells #[s1, s2] 23)) ((Below.refl _ _).alloc (Nat.le_refl _) _)
  exact ⟨held_keep (by decide) h'.h6, held_keep (by decide) h'.h8, Held.now ⟨_, rfl, h.b5.lt, heap_alloc_new _ _⟩, held_keep (by decide) h'.h19, h'.hS, h'.bx, by rw [bit_other (by decide)]; exact h'.b4, held_keep (by decide) h'.b4', h'.b5, h'.hB, by rw [bit_other (by decide)]; exact h'.ext, by rw [bit_other (by decide), bit_other (by decide)]; exact h'.ord, held_keep (by decide) h'.h20, by rw [bit_other (by decide), bit_other (by decide)]; exact h'.ord2⟩
theorem TInv.call (h : TInv W S N fi cp CL FV s1 s2 ys m x u6 u8 u18 u19 u20) (hb : Below x.heap.size x y) {cells : List Value} {u : Value} (h1 : y.ownsRow x.heap.size 37 9 u ys.length cells) (h2 : Rep.frame.all false y S cells ys) (hnb : m.testBit 19 = false) : TInv W S N fi cp CL FV s1 s2 ys (m ||| 2 ^ 19) y u6 u8 u18 u u20 := by
  have h' := h.move hb
  exact ⟨held_keep (by decide) h'.h6, held_keep (by decide) h'.h8, held_keep (by decide) h'.h18, Held.now ⟨cells, own_base h1 h.b5.lt, h2⟩, h'.hS, h'.bx, by rw [bit_other (by decide)]; exact h'.b4, held_keep (by decide) h'.b4', h'.b5, h'.hB, by rw [bit_other (by decide)]; exact h'.ext, fun _ => bit_now, Held.none (by rw [bit_other (by decide)]; cases q : m.testBit 20 with | false => rfl | true => have e := h.ord2 q; rw [hnb] at e; cases e), fun _ => bit_now⟩
theorem TInv.twenty (h : TInv W S N fi cp CL FV s1 s2 ys m x u6 u8 u18 u19 u20) (h19 : m.testBit 19 = true) : TInv W S N fi cp CL FV s1 s2 ys (m ||| 2 ^ 20) x u6 u8 u18 u19 (.agg #[.bool fi, .int .i64 cp, u19]) :=
  ⟨held_keep (by decide) h.h6, held_keep (by decide) h.h8, held_keep (by decide) h.h18, held_keep (by decide) h.h19, h.hS, h.bx, by rw [bit_other (by decide)]; exact h.b4, held_keep (by decide) h.b4', h.b5, h.hB, by rw [bit_other (by decide)]; exact h.ext, by rw [bit_other (by decide), bit_other (by decide)]; exact h.ord, Held.now rfl, fun _ => by rw [bit_other (by decide)]; exact h19⟩
theorem TInv.store (h : TInv W S N fi cp CL FV s1 s2 ys m x u6 u8 u18 u19 u20) (hk : ∀ k, k ≠ N + 1 → y.heap[k]? = x.heap[k]?) (h4 : Box y (N + 1) FV 37) (hb : Below N x y) (h19 : m.testBit 19 = true) : TInv W S N fi cp CL FV s1 s2 ys (m ||| 2 ^ 21) y u6 u8 u18 u19 u20 := by
  refine ⟨held_keep (by decide) h.h6, held_keep (by decide) h.h8, held_keep (by decide) (h.h18.imp ?_), held_keep (by decide) (h.h19.imp ?_), h.hS, (hk _ (by omega)).trans h.bx, fun q => ?_, Held.now h4, (hk _ (by omega)).trans h.b5, h.hB.trans hb, fun q => ?_, fun _ => by rw [bit_other (by decide)]; exact h19, held_keep (by decide) h.h20, by rw [bit_other (by decide), bit_other (by decide)]; exact h.ord2⟩
  · rintro ⟨g, e, k1, k2⟩
    exact ⟨g, e, k1, (hk g (by omega)).trans k2⟩
  · rintro ⟨cells, k1, k2⟩
    exact ⟨cells, own_move k1 (fun b q _ => hk b (by omega)), Rep.all_keep (fun b q => hk b (by have := h.hS b q; omega)) k2⟩
  · rw [bit_now] at q; cases q
  · rw [bit_now] at q; cases q
end
theorem own_form {w : World} {B size n : Nat} {e : TypeId} {v : Value} {cells : List Value} (h : w.ownsRow B e size v n cells) : ∃ A c, v = .slice A n c := by
  rcases h.2 with ⟨rfl, h4⟩ | ⟨g, cap, cur, rfl, _⟩
  · exact ⟨none, 0, by rw [h4]⟩
  · exact ⟨_, _, rfl⟩
theorem laconcat_of (S : Nat → Prop) (g n1 n2 : Nat) (A1 A2 : Option Addr) (c1 c2 : Nat) (xs ys : List Fr) (w : World) (hS : ∀ b, S b → b < w.heap.size) (e1 : n1 = xs.length) (e2 : n2 = ys.length) (h1 : SliceOn Rep.frame false w S (.slice A1 n1 c1) xs) (h2 : SliceOn Rep.frame false w S (.slice A2 n2 c2) ys)
    (hrow : w.heap[g]? = some (.cells #[.slice A1 n1 c1, .slice A2 n2 c2] 23 (0, 0))) (hn : xs.length + ys.length ≤ 1000000) : Calls Try.prog 63 #[.slice (some ⟨g, 0, none⟩) 2 2] w
    fun y w' => (∃ u cells, y = .returned u ∧ w'.ownsRow w.heap.size 37 9 u (xs ++ ys).length cells ∧ Rep.frame.all false w' S cells (xs ++ ys)) ∧ Below w.heap.size w w' := by
  subst e1 e2
  exact laconcat_any S g A1 A2 c1 c2 xs ys w hS h1 h2 hrow hn
theorem LaNew.own {W V : World} {S : Nat → Prop} {N B n uc : Nat} {UA : Option Addr} {cells : List Value} {a : La} (ho : W.ownsRow B 37 9 (.slice UA n uc) a.l.length cells) (hr : Rep.frame.all false W S cells a.l) (hN : N ≤ B) (hz : V.heap.size = W.heap.size) (hk : ∀ b, S b ∨ B ≤ b → V.heap[b]? = W.heap[b]?) :
    LaNew V S N (.agg #[.bool a.fifo, .int .i64 a.cap, .slice UA n uc]) a := by
  have hs : SliceOn Rep.frame false W (also S B W.heap.size) (.slice UA n uc) a.l := SliceOn.of_own (r := Rep.frame) ho (Rep.all_widen (fun b hb => .inl hb) hr) (fun b hb => .inr (ho.lt b hb))
  obtain ⟨A, c, he, _⟩ := id hs
  injection he with e1 e2 e3
  subst e1 e2 e3
  refine ⟨_, _, rfl, (hs.keep fun b hb => hk b (hb.imp id fun q => q.1)).widen fun b hb => hb.imp id fun q => ⟨Nat.le_trans hN q.1, by rw [hz]; exact q.2⟩, fun h0 => ?_⟩
  rcases ho.2 with ⟨_, h1⟩ | ⟨g, cap, cur, he, hb, hg, h1, h2, h3, h4⟩
  · omega
  · injection he with e1 e2 e3
    subst e1 e3
    exact ⟨g, cur, rfl, by omega, (hk g (.inr hb)).trans hg, by rw [h3]; exact Nat.mul_le_mul_right _ h1⟩


set_option maxRecDepth 100000 in
set_option maxHeartbeats 1000000 in
theorem latake_yes (v : Value) (fi : Bool) (cp : Int) (l : List Fr) (i : Nat) (w : World) (S : Nat → Prop) (hS : ∀ b, S b → b < w.heap.size) (h : LaOn w S v ⟨fi, cp, l⟩) (hn : l.length ≤ 1000000) (hlt : i < l.length) (hf : fi = true → i = 0) : Calls Try.prog 22 #[v, .int .i64 i] w
    fun y w' => (∃ p u, y = .returned (.tuple #[p, u, .int .i64 0]) ∧ FrOn false w' S p (l.getD i Fr.zero) ∧ LaNew w' S w.heap.size u (La.less ⟨fi, cp, l⟩ i)) ∧ Below w.heap.size w w' := by
  obtain ⟨A, c, he, h1⟩ := h
  dsimp only at he h1
  subst he
  have hl := (h1.all_ hS).len_le
  have hlc : l.length ≤ c := (h1.all_ hS).len_cap
  have HSS := Lib.hid hS; clear hS
  go_enter Try.func22, Try.ntmps22
  go_upto_region 1 with fail
  refine name_wp fun W0 hW0 => ?_
  have bx : Box W0 w.heap.size #[.bool fi, .int .i64 cp, .slice A l.length c] 25 := hW0 ▸ ((Box.at' _ _ rfl).alloc _).alloc _
  have b4 : Box W0 (w.heap.size + 1) #[.int .i64 0, .int .i64 0, .int .i64 0, .int .i64 0, .slice none 0 0, .int .i64 0, .int .i64 0, .int .i64 0, .slice none 0 0] 37 := hW0 ▸ (Box.at' _ _ (by simp)).alloc _
  have b5 : Box W0 (w.heap.size + 1 + 1) #[.bool false, .int .i64 0, .slice none 0 0] 25 := hW0 ▸ Box.at' _ _ (by simp)
  have hB : Below w.heap.size w W0 := hW0 ▸ (((Below.refl _ _).alloc (Nat.le_refl _) _).alloc (by simp) _).alloc (by simp; omega) _
  clear hW0
  have hi0 : ¬ ((i : Int) < 0) := by omega
  have hi1 : ¬ ((i : Int) ≥ (l.length : Int)) := by omega
  have hi2 : (i : Int) ≤ (c : Int) := by omega
  have hi3 : (i : Int) + 1 ≤ (l.length : Int) := by omega
  have hi4 : ((i : Int) + 1).toNat = i + 1 := by omega
  have hi5 : (0 : Int) ≤ (i : Int) + 1 := by omega
  have hbl := bx.lt
  have HB := Lib.hid hB; clear hB
  obtain ⟨d0, d1, d2⟩ := three_cells bx
  go_cut [23] (fun u wx => u = .bool false ∧ wx = W0)
  case first =>
    cases fi with
    | false =>
      go_wp2_with fail
      go_meet
      exact ⟨rfl, rfl⟩
    | true =>
      have q : ¬ ((i : Int) > 0) := by have := hf rfl; omega
      have q3 : decide (0 < i) = false := by simpa using hf rfl
      have Q3 := Lib.hid q3
      clear hf q3
      go_wp2_with fail
      go_meet
      exact ⟨by first | rfl | rw [Q3.out], rfl⟩
  case rest =>
    obtain ⟨rfl, rfl⟩ := hcut
    obtain ⟨W, rfl⟩ : ∃ W : World, W = wc := ⟨_, rfl⟩
    clear d0 d1 d2
    go_upto_region 3 with fail
    obtain ⟨x, hx⟩ := Pc.get_at hlt
    have hs := h1.keep (fun b q => HB.out.block b (HSS.out b q))
    obtain ⟨g, o, pA, pB, pk, pl, he, hgs, hc, hp⟩ := hs.arr.frame hx
    subst he
    have hgp : g < w.heap.size := HSS.out g hgs
    clear hgs
    have c0 := hc 0 _ rfl
    have c1 := hc 1 _ rfl
    have c2 := hc 2 _ rfl
    have c3 := hc 3 _ rfl
    have c4 := hc 4 _ rfl
    have c5 := hc 5 _ rfl
    have c6 := hc 6 _ rfl
    have c7 := hc 7 _ rfl
    have c8 := hc 8 _ rfl
    simp only [Nat.add_zero] at c0
    have HX := Lib.hid hx; have HS := Lib.hid hs; have HP := Lib.hid hp; clear hx h1 hs hp hc
    have bxd := bx.next ((Below.refl _ _).drew)
    have b4d := b4.next ((Below.refl _ _).drew)
    have b5d := b5.next ((Below.refl _ _).drew)
    have HBd := Lib.hid HB.out.drew
    have hE := Ext.refl W.drew
    clear bx b4 b5
    obtain ⟨d0, d1, d2⟩ := three_cells bxd
    refine region_go 524288 (by kernel_rfl) ?_
    refine wpAny_go 524288 0 [15] 32768 23 (by kernel_rfl) (by kernel_rfl) (fun _ _ _ _ _ h => h) (by kernel_rfl) (by rfl) (by rfl) (by kernel_rfl) ?_
    simp only [List.map_cons, List.map_nil, List.getD_cons_succ, List.getD_cons_zero]
    go_wp2_with fail
    change wpAnyM _ _ _ _ _ _ _ _ _ _
    refine wpAny_takeM 16 rfl (by kernel_rfl) (by rfl : 32768 ||| 2 ^ 16 = 98304) (by kernel_rfl) (by kernel_rfl) (by kernel_rfl) (by kernel_rfl) (fun _ _ _ h => h) (.inl ⟨by rfl, fun w => by (go_simp; try with_reducible rfl)⟩) ?_
    refine wpAny_go 524288 98304 [9, 10, 11, 12, 13, 14] 130560 16 (by kernel_rfl) (by kernel_rfl) (fun _ _ _ _ _ h => h) (by kernel_rfl) (by rfl) (by rfl) (by kernel_rfl) ?_
    simp only [List.map_cons, List.map_nil, List.getD_cons_succ, List.getD_cons_zero]
    go_wp2_with fail
    change wpAnyM _ _ _ _ _ _ _ _ _ _
    refine wpAny_go 524288 130560 [17] 261632 15 (by kernel_rfl) (by kernel_rfl) (fun _ _ _ _ _ h => h) (by kernel_rfl) (by rfl) (by rfl) (by kernel_rfl) ?_
    simp only [List.map_cons, List.map_nil, List.getD_cons_succ, List.getD_cons_zero]
    go_wp2_with (refine wpList_tailS rfl (.tmp 40) (.tmp 42) 23 37 rfl Try.underlying23 9 (by kernel_rfl) g o l.length c (i + 1) _ rfl rfl (by simp) hlt ?_; intro AV hAV; have HAV := Lib.hid hAV; clear hAV)
    change wpAnyM _ _ _ _ _ _ _ _ _ _
    refine wpAny_reads 524288 261632 [0, 1, 2, 3, 4] 261663 10 (by kernel_rfl) (by kernel_rfl) (fun _ _ _ _ _ h => h) (by kernel_rfl) (by rfl) (by rfl) (by kernel_rfl) ?_
    simp only [List.map_cons, List.map_nil, List.getD_cons_succ, List.getD_cons_zero]
    go_wp2_with fail
    change _ → wpAnyM _ _ _ _ _ _ _ _ _ _; intro _
    refine wpAny_takeM 5 rfl (by kernel_rfl) (by rfl : 261663 ||| 2 ^ 5 = 261695) (by kernel_rfl) (by kernel_rfl) (by kernel_rfl) (by kernel_rfl) (fun _ _ _ h => h) (.inl ⟨by rfl, fun w => by (go_simp; try with_reducible rfl)⟩) ?_
    refine wpAny_takeM 7 rfl (by kernel_rfl) (by rfl : 261695 ||| 2 ^ 7 = 261823) (by kernel_rfl) (by kernel_rfl) (by kernel_rfl) (by kernel_rfl) (fun _ _ _ h => h) (.inl ⟨by rfl, fun w => by (go_simp; try with_reducible rfl)⟩) ?_
    clear c0 c1 c2 c3 c4 c5 c6 c7 c8
    clear d0 d1 d2
    refine name_act fun A0 hA0 => ?_
    have hT : TInv W.drew S w.heap.size fi cp #[.bool fi, .int .i64 cp, .slice (some ⟨g, o, none⟩) l.length c] #[.int .i64 x.kind, .int .i64 x.epoch, .int .i64 x.seq, .int .i64 x.letter, .slice pA x.pieces.length pk, .int .i64 x.init, .int .i64 x.num, .int .i64 x.count, .slice pB x.path.length pl] (.slice (some ⟨g, o, none⟩) i c) (.slice AV (l.length - (i + 1)) (c - (i + 1))) (l.take i ++ l.drop (i + 1)) 261823 W.drew (A0.tmps.getD 32 undef) (A0.tmps.getD 34 undef) (A0.tmps.getD 44 undef) (A0.tmps.getD 45 undef) (A0.tmps.getD 46 undef) := ⟨Held.none (by kernel_rfl), Held.none (by kernel_rfl), Held.none (by kernel_rfl), Held.none (by kernel_rfl), HSS.out, bxd, fun _ => b4d, Held.none (by kernel_rfl), b5d, Below.refl _ _, fun _ => Ext.refl _, fun h => absurd h (by decide), Held.none (by kernel_rfl), fun h => absurd h (by decide)⟩
    clear bxd b4d b5d hE
    refine wpAny_blockN [6, 8, 18, 19, 20, 21] 4194303 (fun m a y => ∃ u6 u8 u18 u19 u20 : Value, a = (((((A0).put (some 32) u6).put (some 34) u8).put (some 44) u18).put (some 45) u19).put (some 46) u20 ∧ TInv W.drew S w.heap.size fi cp #[.bool fi, .int .i64 cp, .slice (some ⟨g, o, none⟩) l.length c] #[.int .i64 x.kind, .int .i64 x.epoch, .int .i64 x.seq, .int .i64 x.letter, .slice pA x.pieces.length pk, .int .i64 x.init, .int .i64 x.num, .int .i64 x.count, .slice pB x.path.length pl] (.slice (some ⟨g, o, none⟩) i c) (.slice AV (l.length - (i + 1)) (c - (i + 1))) (l.take i ++ l.drop (i + 1)) m y u6 u8 u18 u19 u20) (by kernel_rfl) (by kernel_rfl) ?_ 2 ?_ 6 261823 _ _ (by kernel_rfl) ⟨A0.tmps.getD 32 undef, A0.tmps.getD 34 undef, A0.tmps.getD 44 undef, A0.tmps.getD 45 undef, A0.tmps.getD 46 undef, by rw [← hA0]; clear hA0; go_simp, hT⟩
    · refine blockSteps2_cons ?_ (blockSteps2_cons ?_ (blockSteps2_cons ?_ (blockSteps2_cons ?_ (blockSteps2_cons ?_ (blockSteps2_cons ?_ blockSteps2_nil)))))
      · rintro m a y hnb hd ⟨u6, u8, u18, u19, u20, ha, hI⟩
        clear hT
        obtain ⟨d0, d1, d2⟩ := three_cells hI.bx
        have hyl := hI.bx.lt
        have HI := Lib.hid hI; clear hI
        have HD := Lib.hid hd; have HNB := Lib.hid hnb; clear hd hnb
        rw [ha, ← hA0]; clear ha hA0
        simp only [List.getD_cons_succ, List.getD_cons_zero]
        go_wp2_with fail
        refine And.intro (fun h => absurd h (by decide)) ?_
        refine ⟨_, u8, u18, u19, u20, ?_, HI.out.six⟩
        go_simp
      · rintro m a y hnb hd ⟨u6, u8, u18, u19, u20, ha, hI⟩
        clear hT
        obtain ⟨d0, d1, d2⟩ := three_cells hI.bx
        have hyl := hI.bx.lt
        have HI := Lib.hid hI; clear hI
        have HD := Lib.hid hd; have HNB := Lib.hid hnb; clear hd hnb
        rw [ha, ← hA0]; clear ha hA0
        simp only [List.getD_cons_succ, List.getD_cons_zero]
        go_wp2_with fail
        refine And.intro (fun h => absurd h (by decide)) ?_
        refine ⟨u6, _, u18, u19, u20, ?_, HI.out.eight⟩
        go_simp
      · rintro m a y hnb hd ⟨u6, u8, u18, u19, u20, ha, hI⟩
        clear hT
        have HI := Lib.hid hI; clear hI
        have HD := Lib.hid hd; have HNB := Lib.hid hnb; clear hd hnb
        rw [ha, ← hA0]; clear ha hA0
        simp only [List.getD_cons_succ, List.getD_cons_zero]
        go_wp2_with fail
        refine And.intro (fun h => absurd h (by decide)) ?_
        refine ⟨u6, u8, _, u19, u20, ?_, HI.out.build⟩
        go_simp
      · rintro m a y hnb hd ⟨u6, u8, u18, u19, u20, ha, hI⟩
        clear hT
        obtain ⟨g2, e18, k1, k2⟩ := hI.h18.get hd (by kernel_rfl)
        subst e18
        have hhi : ∀ b, S b → b < y.heap.size := fun b q => Nat.lt_trans (HSS.out b q) hI.bx.lt
        have hsy := HS.out.keep (w := W) (w' := y) (fun b q => ((Below.refl w.heap.size W).drew.trans hI.hB).block b (HSS.out b q))
        have hs1 := hsy.head_ (k := i) (Nat.le_of_lt hlt)
        have hs2 := hsy.tail_ (k := i + 1) hlt
        replace hs2 : SliceOn Rep.frame false y S (.slice AV (l.length - (i + 1)) (c - (i + 1))) (l.drop (i + 1)) := by rw [HAV.out]; exact hs2
        have HS1 := Lib.hid hs1; have HS2 := Lib.hid hs2; have HK2 := Lib.hid k2; clear hs1 hs2 k2 hsy
        have HI := Lib.hid hI; clear hI
        have HD := Lib.hid hd; have HNB := Lib.hid hnb; clear hd hnb
        rw [ha, ← hA0]; clear ha hA0
        simp only [List.getD_cons_succ, List.getD_cons_zero]
        go_wp2_with fail
        refine (laconcat_of S g2 _ _ _ _ _ _ (l.take i) (l.drop (i + 1)) y hhi (by simp; omega) (by simp) HS1.out HS2.out HK2.out (by simp; omega)).mono ?_
        rintro e z ⟨⟨u, cells, rfl, ho, hr⟩, hb⟩
        have HO := Lib.hid ho; have HR := Lib.hid hr; have HBB := Lib.hid hb; clear ho hr hb
        go_wp2_with fail
        refine And.intro (fun _ => (HI.out.ext (by cases h : m.testBit 21 with | false => rfl | true => have q := HI.out.ord h; rw [HNB.out] at q; cases q)).trans (Ext.below HBB.out (Nat.le_refl _))) ?_
        refine ⟨u6, u8, _, u, u20, ?_, HI.out.call HBB.out HO.out HR.out HNB.out⟩
        go_simp
      · rintro m a y hnb hd ⟨u6, u8, u18, u19, u20, ha, hI⟩
        clear hT
        obtain rfl := hI.h6.get hd (by kernel_rfl)
        obtain rfl := hI.h8.get hd (by kernel_rfl)
        obtain ⟨cells, ho, _⟩ := hI.h19.get hd (by kernel_rfl)
        obtain ⟨UA, uc, rfl⟩ := own_form ho
        clear ho
        have q19 := Held.get (m := m) (i := 19) (φ := m.testBit 19 = true) (fun h => h) hd (by kernel_rfl)
        have Q19 := Lib.hid q19; clear q19
        have HI := Lib.hid hI; clear hI
        have HD := Lib.hid hd; have HNB := Lib.hid hnb; clear hd hnb
        rw [ha, ← hA0]; clear ha hA0
        simp only [List.getD_cons_succ, List.getD_cons_zero]
        go_wp2_with fail
        refine And.intro (fun h => absurd h (by decide)) ?_
        refine ⟨_, _, u18, _, _, ?_, HI.out.twenty Q19.out⟩
        go_simp
      · rintro m a y hnb hd ⟨u6, u8, u18, u19, u20, ha, hI⟩
        clear hT
        have b4y := hI.b4 hnb
        obtain ⟨c0, c1, c2, c3, c4, c5, c6, c7, c8⟩ := nine_cells b4y
        obtain ⟨f0, f1, f2, f3, f4, f5, f6, f7, f8⟩ := nine_free b4y
        have hyl := b4y.lt
        have q19 := Held.get (m := m) (i := 19) (φ := m.testBit 19 = true) (fun h => h) hd (by kernel_rfl)
        have B4Y := Lib.hid b4y; clear b4y
        have Q19 := Lib.hid q19; clear q19
        have HI := Lib.hid hI; clear hI
        have HD := Lib.hid hd; have HNB := Lib.hid hnb; clear hd hnb
        rw [ha, ← hA0]; clear ha hA0
        simp only [List.getD_cons_succ, List.getD_cons_zero]
        go_wp2_with fail
        refine And.intro (fun h => absurd h (by decide)) ?_
        refine ⟨u6, u8, u18, u19, u20, ?_, HI.out.store (fun k hk => nine_far (w := y) (b := w.heap.size + 1) hk) (nine_box B4Y.out) (nine_below (Below.refl _ _) (Nat.le_succ _)) Q19.out⟩
        go_simp
    · rintro a W5 ⟨u6, u8, u18, u19, u20, ha, hI⟩
      clear hT
      obtain rfl := hI.h6.done (by kernel_rfl)
      obtain rfl := hI.h8.done (by kernel_rfl)
      obtain ⟨cells, ho, hr⟩ := hI.h19.done (by kernel_rfl)
      obtain ⟨UA, uc, he, _⟩ := (SliceOn.of_own (S := fun b => S b ∨ u19.ownBlock = some b) ho (Rep.all_widen (fun b hb => .inl hb) hr) (fun b hb => .inr hb) : SliceOn Rep.frame false W5 _ u19 (l.take i ++ l.drop (i + 1)))
      subst he
      have e20 := hI.h20.done (by kernel_rfl)
      subst e20
      have b4 := hI.b4'.done (by kernel_rfl)
      have b5 := hI.b5
      have hBW := HBd.out.trans hI.hB
      clear hI
      have HO := Lib.hid ho; have HR := Lib.hid hr; have HBW := Lib.hid hBW; clear ho hr hBW
      obtain ⟨d0, d1, d2⟩ := three_cells b5
      have df0 := three_free b5 0
      have df1 := three_free b5 1
      have df2 := three_free b5 2
      have hwl := b5.lt
      rw [ha, ← hA0]; clear ha hA0
      obtain ⟨n, hn0⟩ : ∃ n, (l.take i ++ l.drop (i + 1)).length = n := ⟨_, rfl⟩
      rw [hn0]
      have HN0 := Lib.hid hn0; clear hn0
      refine wpAny_go 524288 4194303 [22, 23] 16777215 0 (by kernel_rfl) (by kernel_rfl) (fun _ _ _ _ _ h => h) (by kernel_rfl) (by rfl) (by rfl) (by kernel_rfl) ?_
      simp only [List.map_cons, List.map_nil, List.getD_cons_succ, List.getD_cons_zero]
      go_wp2_with fail
      change wpAnyM _ _ _ _ _ _ _ _ _ _
      clear d0 d1 d2 df0 df1 df2
      refine nameAny fun V hV0 => ?_
      have b5V : Box V (w.heap.size + 1 + 1) #[.bool fi, .int .i64 cp, .slice UA n uc] 25 := by rw [← hV0]; exact blk_set (blk_set (blk_set b5 0 _) 1 _) 2 _
      have hkV : ∀ k, k ≠ w.heap.size + 1 + 1 → V.heap[k]? = W5.heap[k]? := fun k hk => by rw [← hV0]; exact ((heap_setCell_other _ _ _ _ hk).trans (heap_setCell_other _ _ _ _ hk)).trans (heap_setCell_other _ _ _ _ hk)
      have hzV : V.heap.size = W5.heap.size := by rw [← hV0]; simp [World.setCell]
      have hBV : Below w.heap.size w V := by rw [← hV0]; exact ((HBW.out.setCell (by simp; omega) _).setCell (by simp; omega) _).setCell (by simp; omega) _
      clear hV0 b5
      have b4V : Box V (w.heap.size + 1) #[.int .i64 x.kind, .int .i64 x.epoch, .int .i64 x.seq, .int .i64 x.letter, .slice pA x.pieces.length pk, .int .i64 x.init, .int .i64 x.num, .int .i64 x.count, .slice pB x.path.length pl] 37 := (hkV _ (by omega)).trans b4
      clear b4
      obtain ⟨c0, c1, c2, c3, c4, c5, c6, c7, c8⟩ := nine_cells b4V
      obtain ⟨d0, d1, d2⟩ := three_cells b5V
      have hl4 := b4V.lt; have hl5 := b5V.lt
      have HKV := Lib.hid hkV; have HZV := Lib.hid hzV; have HBV := Lib.hid hBV; clear hkV hzV hBV
      refine wpAny_endM (by kernel_rfl) (by kernel_rfl) ?_
      go_wp2_with fail
      refine bodyPost_ret (v := .tuple #[.agg #[.int .i64 x.kind, .int .i64 x.epoch, .int .i64 x.seq, .int .i64 x.letter, .slice pA x.pieces.length pk, .int .i64 x.init, .int .i64 x.num, .int .i64 x.count, .slice pB x.path.length pl], .agg #[.bool fi, .int .i64 cp, .slice UA n uc], .int .i64 0]) (by simp [results, Try.results22, go_sem, c0, c1, c2, c3, c4, c5, c6, c7, c8, d0, d1, d2]) rfl ⟨⟨_, _, rfl, ?_, ?_⟩, HBV.out⟩
      · rw [show l.getD i Fr.zero = x from by rw [List.getD_eq_getElem?_getD, HX.out]; rfl]
        exact HP.out.keep (w' := V) (fun b hb => ((HBV.out.block b (HSS.out b hb)).trans (HB.out.block b (HSS.out b hb)).symm))
      · have ho := HO.out; rw [HN0.out] at ho
        have hl0 : (La.less ⟨fi, cp, l⟩ i).l.length = n := HN0.out
        refine LaNew.own (a := La.less ⟨fi, cp, l⟩ i) (W := W5) (B := w.heap.size + 1 + 1 + 1) (by rw [hl0]; exact ho) HR.out (by omega) HZV.out (fun b hb => HKV.out b (by have q := hb.imp (HSS.out b) id; omega))
end Go.Proofs.Ytkkbblpofhenpaa
