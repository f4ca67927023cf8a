/- Lemmas, walks and contracts that the statements of this seat are proved by. -/
import Derived.Test.YtkkbblpofhenpaaS14
import Derived.Test.YtkkbblpofhenpaaS9
/- Contracts of layer 8 in the forms that the laws' walks want. -/
namespace Go.Proofs.Ytkkbblpofhenpaa
open Go.RowKit

/-- A message's frame. -/
def appF (k : Int) : Fr := ⟨0, 0, k, 0, [], 0, 0, 0, []⟩
theorem appF_on (k : Int) (w : World) (S : Nat → Prop) : FrOn false w S (.agg #[.int .i64 0, .int .i64 0, .int .i64 k, .int .i64 0, .slice none 0 0, .int .i64 0, .int .i64 0, .int .i64 0, .slice none 0 0]) (appF k) := ⟨none, none, 0, 0, rfl, SliceOn.none_, SliceOn.none_⟩
theorem capp (k : Int) (w : World) : Calls Try.prog 36 #[.int .i64 k] w fun y w' => y = .returned (.agg #[.int .i64 0, .int .i64 0, .int .i64 k, .int .i64 0, .slice none 0 0, .int .i64 0, .int .i64 0, .int .i64 0, .slice none 0 0]) ∧ Below w.heap.size w w' := by
  go_enter Try.func36, Try.ntmps36
  go_upto_region 1 with fail
  refine name_wp fun W0 hW0 => ?_
  have b4 : Box W0 w.heap.size #[.int .i64 0, .int .i64 0, .int .i64 0, .int .i64 0, .slice none 0 0, .int .i64 0, .int .i64 0, .int .i64 0, .slice none 0 0] 37 := hW0 ▸ Box.at' _ _ rfl
  have hB : Below w.heap.size w W0 := hW0 ▸ (Below.refl _ _).alloc (Nat.le_refl _) _
  clear hW0
  obtain ⟨c0, c1, c2, c3, c4, c5, c6, c7, c8⟩ := nine_cells b4
  obtain ⟨g0, g1, g2, g3, g4, g5, g6, g7, g8⟩ := nine_free b4
  have hl := b4.lt
  go_wp2_with fail
  refine bodyPost_ret (v := .agg #[.int .i64 0, .int .i64 0, .int .i64 k, .int .i64 0, .slice none 0 0, .int .i64 0, .int .i64 0, .int .i64 0, .slice none 0 0]) (by simp [results, Try.results36, go_sem, c0, c1, c2, c3, c4, c5, c6, c7, c8]) rfl ⟨rfl, nine_below hB (by omega)⟩
def outS (w : World) (lo g : Nat) : Nat → Prop := fun k => lo ≤ k ∧ k < w.heap.size ∧ k ≠ g
variable {v vf u : Value} {a b : La} {f : Fr} {w w' : World} {S : Nat → Prop} {lo hi g : Nat}
theorem LaIs.out_low (h : LaIs false w lo hi v a) (h1 : hi ≤ g) (h2 : hi ≤ w.heap.size) : LaOn w (outS w lo g) v a := h.on.widen fun k hk => ⟨hk.1, Nat.lt_of_lt_of_le hk.2 h2, by have := hk.2; omega⟩
theorem FrIs.out_low (h : FrIs false w lo hi v f) (h1 : hi ≤ g) (h2 : hi ≤ w.heap.size) : FrOn false w (outS w lo g) v f := h.on.widen fun k hk => ⟨hk.1, Nat.lt_of_lt_of_le hk.2 h2, by have := hk.2; omega⟩
theorem LaIs.out_new (h : LaIs false w lo w.heap.size v a) (hb : Below w.heap.size w w') : LaOn w' (outS w' lo w.heap.size) v a := (h.keep fun b _ q => hb.block b q).out_low (Nat.le_refl _) hb.size
theorem FrIs.out_new (h : FrIs false w lo w.heap.size v f) (hb : Below w.heap.size w w') : FrOn false w' (outS w' lo w.heap.size) v f := (h.keep fun b _ q => hb.block b q).out_low (Nat.le_refl _) hb.size
theorem cpush (S : Nat → Prop) (b : La) (n : Int) (hS : ∀ b, S b → b < w.heap.size) (h : LaOn w S v a) (hf : FrOn false w S vf f) (hn : a.l.length < 1000000) (hp : La.push a f = b) (he : La.pushE a f = n) : Calls Try.prog 19 #[v, vf] w
    fun y w' => (∃ C c, y = .returned (.tuple #[.agg #[.bool b.fifo, .int .i64 b.cap, .slice C b.l.length c], .int .i64 n]) ∧ LaNew w' S w.heap.size (.agg #[.bool b.fifo, .int .i64 b.cap, .slice C b.l.length c]) b) ∧ Below w.heap.size w w' := by
  subst hp he
  refine (lapush_any v vf a f w S hS h hf hn).mono ?_
  rintro y w' ⟨⟨u, rfl, hu⟩, hb⟩
  obtain ⟨C, c, rfl, _⟩ := id hu
  exact ⟨⟨C, c, rfl, hu⟩, hb⟩
theorem crpush (S : Nat → Prop) (b : La) (n : Int) (hS : ∀ b, S b → b < w.heap.size) (h : LaOn w S v a) (hf : FrOn false w S vf f) (hn : a.l.length < 1000000) (hp : La.push a f = b) (he : La.pushE a f = n) : Calls Try.prog 20 #[v, vf] w
    fun y w' => (∃ C c, y = .returned (.tuple #[.agg #[.bool b.fifo, .int .i64 b.cap, .slice C b.l.length c], .int .i64 n]) ∧ LaOn w' (also S w.heap.size w'.heap.size) (.agg #[.bool b.fifo, .int .i64 b.cap, .slice C b.l.length c]) b) ∧ Below w.heap.size w w' := by
  subst hp he
  refine (rapush_any v vf a f w S hS h hf hn).mono ?_
  rintro y w' ⟨⟨u, rfl, hu⟩, hb⟩
  obtain ⟨C, c, rfl, _⟩ := id hu
  exact ⟨⟨C, c, rfl, hu⟩, hb⟩
theorem ctake (S : Nat → Prop) (p : Fr) (b : La) (n i : Int) (hS : ∀ b, S b → b < w.heap.size) (h : LaOn w S v a) (hn : a.l.length ≤ 1000000) (hf : La.takeF a i = p) (hp : La.take a i = b) (he : La.takeE a i = n) : Calls Try.prog 22 #[v, .int .i64 i] w
    fun y w' => (∃ A k B l C c, y = .returned (.tuple #[.agg #[.int .i64 p.kind, .int .i64 p.epoch, .int .i64 p.seq, .int .i64 p.letter, .slice A p.pieces.length k, .int .i64 p.init, .int .i64 p.num, .int .i64 p.count, .slice B p.path.length l], .agg #[.bool b.fifo, .int .i64 b.cap, .slice C b.l.length c], .int .i64 n]) ∧ FrOn false w' S (.agg #[.int .i64 p.kind, .int .i64 p.epoch, .int .i64 p.seq, .int .i64 p.letter, .slice A p.pieces.length k, .int .i64 p.init, .int .i64 p.num, .int .i64 p.count, .slice B p.path.length l]) p ∧ LaNew w' S w.heap.size (.agg #[.bool b.fifo, .int .i64 b.cap, .slice C b.l.length c]) b) ∧ Below w.heap.size w w' := by
  subst hf hp he
  refine (latake_any v a i w S hS h hn).mono ?_
  rintro y w' ⟨⟨p, u, rfl, hp, hu⟩, hb⟩
  obtain ⟨C, c, rfl, _⟩ := id hu
  obtain ⟨A, B, k, l, rfl, _⟩ := id hp
  exact ⟨⟨A, k, B, l, C, c, rfl, hp, hu⟩, hb⟩
theorem crtake (S : Nat → Prop) (p : Fr) (b : La) (n i : Int) (hS : ∀ b, S b → b < w.heap.size) (h : LaOn w S v a) (hn : a.l.length ≤ 1000000) (hf : La.takeF a i = p) (hp : La.take a i = b) (he : La.takeE a i = n) : Calls Try.prog 23 #[v, .int .i64 i] w
    fun y w' => (∃ A k B l C c, y = .returned (.tuple #[.agg #[.int .i64 p.kind, .int .i64 p.epoch, .int .i64 p.seq, .int .i64 p.letter, .slice A p.pieces.length k, .int .i64 p.init, .int .i64 p.num, .int .i64 p.count, .slice B p.path.length l], .agg #[.bool b.fifo, .int .i64 b.cap, .slice C b.l.length c], .int .i64 n]) ∧ FrOn false w' S (.agg #[.int .i64 p.kind, .int .i64 p.epoch, .int .i64 p.seq, .int .i64 p.letter, .slice A p.pieces.length k, .int .i64 p.init, .int .i64 p.num, .int .i64 p.count, .slice B p.path.length l]) p ∧ LaOn w' (also S w.heap.size w'.heap.size) (.agg #[.bool b.fifo, .int .i64 b.cap, .slice C b.l.length c]) b) ∧ Below w.heap.size w w' := by
  subst hf hp he
  refine (ratake_any v a i w S hS h hn).mono ?_
  rintro y w' ⟨⟨p, u, rfl, hp, hu⟩, hb⟩
  obtain ⟨C, c, rfl, _⟩ := id hu
  obtain ⟨A, B, k, l, rfl, _⟩ := id hp
  exact ⟨⟨A, k, B, l, C, c, rfl, hp, hu⟩, hb⟩
theorem also_rng (hb : Below w.heap.size w w') (hlo : lo ≤ w.heap.size) : ∀ k, also (rng lo w.heap.size) w.heap.size w'.heap.size k → lo ≤ k ∧ k < w'.heap.size := fun _ hk => hk.elim (fun q => ⟨q.1, Nat.lt_of_lt_of_le q.2 hb.size⟩) (fun q => ⟨Nat.le_trans hlo q.1, q.2⟩)
theorem also_out (hb : Below w.heap.size w w') (hlo : lo ≤ w.heap.size) (hg : g < w.heap.size) : ∀ k, also (outS w lo g) w.heap.size w'.heap.size k → outS w' lo g k := fun _ hk => hk.elim (fun q => ⟨q.1, Nat.lt_of_lt_of_le q.2.1 hb.size, q.2.2⟩) (fun q => ⟨Nat.le_trans hlo q.1, q.2, by have := q.1; omega⟩)
theorem cpushI (b : La) (n : Int) (hlo : lo ≤ w.heap.size) (h : LaIs false w lo w.heap.size v a) (hf : FrIs false w lo w.heap.size vf f) (hn : a.l.length < 1000000) (hp : La.push a f = b) (he : La.pushE a f = n) : Calls Try.prog 19 #[v, vf] w
    fun y w' => (∃ C c, y = .returned (.tuple #[.agg #[.bool b.fifo, .int .i64 b.cap, .slice C b.l.length c], .int .i64 n]) ∧ LaIs false w' lo w'.heap.size (.agg #[.bool b.fifo, .int .i64 b.cap, .slice C b.l.length c]) b) ∧ Below w.heap.size w w' := by
  refine (cpush (rng lo w.heap.size) b n (fun _ q => q.2) h.on hf.on hn hp he).mono ?_
  rintro y w' ⟨⟨C, c, rfl, hu⟩, hb⟩
  exact ⟨⟨C, c, rfl, hu.on.rng_ (also_rng hb hlo)⟩, hb⟩
theorem cpushO (b : La) (n : Int) (hlo : lo ≤ w.heap.size) (hg : g < w.heap.size) (h : LaOn w (outS w lo g) v a) (hf : FrOn false w (outS w lo g) vf f) (hn : a.l.length < 1000000) (hp : La.push a f = b) (he : La.pushE a f = n) : Calls Try.prog 19 #[v, vf] w
    fun y w' => (∃ C c, y = .returned (.tuple #[.agg #[.bool b.fifo, .int .i64 b.cap, .slice C b.l.length c], .int .i64 n]) ∧ LaOn w' (outS w' lo g) (.agg #[.bool b.fifo, .int .i64 b.cap, .slice C b.l.length c]) b) ∧ Below w.heap.size w w' := by
  refine (cpush (outS w lo g) b n (fun _ q => q.2.1) h hf hn hp he).mono ?_
  rintro y w' ⟨⟨C, c, rfl, hu⟩, hb⟩
  exact ⟨⟨C, c, rfl, hu.on.widen (also_out hb hlo hg)⟩, hb⟩
theorem crpushI (b : La) (n : Int) (hlo : lo ≤ w.heap.size) (h : LaIs false w lo w.heap.size v a) (hf : FrIs false w lo w.heap.size vf f) (hn : a.l.length < 1000000) (hp : La.push a f = b) (he : La.pushE a f = n) : Calls Try.prog 20 #[v, vf] w
    fun y w' => (∃ C c, y = .returned (.tuple #[.agg #[.bool b.fifo, .int .i64 b.cap, .slice C b.l.length c], .int .i64 n]) ∧ LaIs false w' lo w'.heap.size (.agg #[.bool b.fifo, .int .i64 b.cap, .slice C b.l.length c]) b) ∧ Below w.heap.size w w' := by
  refine (crpush (rng lo w.heap.size) b n (fun _ q => q.2) h.on hf.on hn hp he).mono ?_
  rintro y w' ⟨⟨C, c, rfl, hu⟩, hb⟩
  exact ⟨⟨C, c, rfl, hu.rng_ (also_rng hb hlo)⟩, hb⟩
theorem crpushO (b : La) (n : Int) (hlo : lo ≤ w.heap.size) (hg : g < w.heap.size) (h : LaOn w (outS w lo g) v a) (hf : FrOn false w (outS w lo g) vf f) (hn : a.l.length < 1000000) (hp : La.push a f = b) (he : La.pushE a f = n) : Calls Try.prog 20 #[v, vf] w
    fun y w' => (∃ C c, y = .returned (.tuple #[.agg #[.bool b.fifo, .int .i64 b.cap, .slice C b.l.length c], .int .i64 n]) ∧ LaOn w' (outS w' lo g) (.agg #[.bool b.fifo, .int .i64 b.cap, .slice C b.l.length c]) b) ∧ Below w.heap.size w w' := by
  refine (crpush (outS w lo g) b n (fun _ q => q.2.1) h hf hn hp he).mono ?_
  rintro y w' ⟨⟨C, c, rfl, hu⟩, hb⟩
  exact ⟨⟨C, c, rfl, hu.widen (also_out hb hlo hg)⟩, hb⟩
theorem ctakeI (p : Fr) (b : La) (n i : Int) (hlo : lo ≤ w.heap.size) (h : LaIs false w lo w.heap.size v a) (hn : a.l.length ≤ 1000000) (hf : La.takeF a i = p) (hp : La.take a i = b) (he : La.takeE a i = n) : Calls Try.prog 22 #[v, .int .i64 i] w
    fun y w' => (∃ A k B l C c, y = .returned (.tuple #[.agg #[.int .i64 p.kind, .int .i64 p.epoch, .int .i64 p.seq, .int .i64 p.letter, .slice A p.pieces.length k, .int .i64 p.init, .int .i64 p.num, .int .i64 p.count, .slice B p.path.length l], .agg #[.bool b.fifo, .int .i64 b.cap, .slice C b.l.length c], .int .i64 n]) ∧ FrIs false w' lo w'.heap.size (.agg #[.int .i64 p.kind, .int .i64 p.epoch, .int .i64 p.seq, .int .i64 p.letter, .slice A p.pieces.length k, .int .i64 p.init, .int .i64 p.num, .int .i64 p.count, .slice B p.path.length l]) p ∧ LaIs false w' lo w'.heap.size (.agg #[.bool b.fifo, .int .i64 b.cap, .slice C b.l.length c]) b) ∧ Below w.heap.size w w' := by
  refine (ctake (rng lo w.heap.size) p b n i (fun _ q => q.2) h.on hn hf hp he).mono ?_
  rintro y w' ⟨⟨A, k, B, l, C, c, rfl, hv, hu⟩, hb⟩
  exact ⟨⟨A, k, B, l, C, c, rfl, hv.rng_ (fun _ q => ⟨q.1, Nat.lt_of_lt_of_le q.2 hb.size⟩), hu.on.rng_ (also_rng hb hlo)⟩, hb⟩
theorem crtakeI (p : Fr) (b : La) (n i : Int) (hlo : lo ≤ w.heap.size) (h : LaIs false w lo w.heap.size v a) (hn : a.l.length ≤ 1000000) (hf : La.takeF a i = p) (hp : La.take a i = b) (he : La.takeE a i = n) : Calls Try.prog 23 #[v, .int .i64 i] w
    fun y w' => (∃ A k B l C c, y = .returned (.tuple #[.agg #[.int .i64 p.kind, .int .i64 p.epoch, .int .i64 p.seq, .int .i64 p.letter, .slice A p.pieces.length k, .int .i64 p.init, .int .i64 p.num, .int .i64 p.count, .slice B p.path.length l], .agg #[.bool b.fifo, .int .i64 b.cap, .slice C b.l.length c], .int .i64 n]) ∧ FrIs false w' lo w'.heap.size (.agg #[.int .i64 p.kind, .int .i64 p.epoch, .int .i64 p.seq, .int .i64 p.letter, .slice A p.pieces.length k, .int .i64 p.init, .int .i64 p.num, .int .i64 p.count, .slice B p.path.length l]) p ∧ LaIs false w' lo w'.heap.size (.agg #[.bool b.fifo, .int .i64 b.cap, .slice C b.l.length c]) b) ∧ Below w.heap.size w w' := by
  refine (crtake (rng lo w.heap.size) p b n i (fun _ q => q.2) h.on hn hf hp he).mono ?_
  rintro y w' ⟨⟨A, k, B, l, C, c, rfl, hv, hu⟩, hb⟩
  exact ⟨⟨A, k, B, l, C, c, rfl, hv.rng_ (fun _ q => ⟨q.1, Nat.lt_of_lt_of_le q.2 hb.size⟩), hu.rng_ (also_rng hb hlo)⟩, hb⟩

theorem cref3 (hhi : hi ≤ w.heap.size) (h : FrIs false w lo hi v f) (hs : f.Small) : Calls Try.prog 21 #[v] w
    fun y w' => (∃ A k B l, y = .returned (.agg #[.int .i64 f.kind, .int .i64 f.epoch, .int .i64 f.seq, .int .i64 f.letter, .slice A f.pieces.length k, .int .i64 f.init, .int .i64 f.num, .int .i64 f.count, .slice B f.path.length l]) ∧ FrOn false w' (also (rng lo hi) w.heap.size w'.heap.size) (.agg #[.int .i64 f.kind, .int .i64 f.epoch, .int .i64 f.seq, .int .i64 f.letter, .slice A f.pieces.length k, .int .i64 f.init, .int .i64 f.num, .int .i64 f.count, .slice B f.path.length l]) f) ∧ Below w.heap.size w w' := by
  refine (frrefl_any lo hi v f w hhi h (by have := hs.1; omega)).mono ?_
  rintro y w' ⟨⟨u, rfl, hu⟩, hb⟩
  obtain ⟨A, B, k, l, rfl, _⟩ := id hu
  exact ⟨⟨A, k, B, l, rfl, hu⟩, hb⟩
/-- What was got where no lane may be written: the floor stays. -/
theorem cref3I (hlo : lo ≤ w.heap.size) (h : FrIs false w lo w.heap.size v f) (hs : f.Small) : Calls Try.prog 21 #[v] w
    fun y w' => (∃ A k B l, y = .returned (.agg #[.int .i64 f.kind, .int .i64 f.epoch, .int .i64 f.seq, .int .i64 f.letter, .slice A f.pieces.length k, .int .i64 f.init, .int .i64 f.num, .int .i64 f.count, .slice B f.path.length l]) ∧ FrIs false w' lo w'.heap.size (.agg #[.int .i64 f.kind, .int .i64 f.epoch, .int .i64 f.seq, .int .i64 f.letter, .slice A f.pieces.length k, .int .i64 f.init, .int .i64 f.num, .int .i64 f.count, .slice B f.path.length l]) f) ∧ Below w.heap.size w w' := by
  refine (cref3 (Nat.le_refl _) h hs).mono ?_
  rintro y w' ⟨⟨A, k, B, l, rfl, hu⟩, hb⟩
  exact ⟨⟨A, k, B, l, rfl, hu.rng_ (also_rng hb hlo)⟩, hb⟩
/-- A lane whose frames' lists are short. -/
def La.Small (a : La) : Prop := a.l.length ≤ 1000 ∧ ∀ f ∈ a.l, f.Small
theorem La.Small.len (h : La.Small a) : a.l.length ≤ 1000000 := by have := h.1; omega
theorem La.Small.len' (h : La.Small a) : a.l.length < 1000000 := by have := h.1; omega
theorem La.Small.pieces (h : La.Small a) : ∀ f ∈ a.l, f.pieces.length ≤ 1000000 := fun f hf => by have := (h.2 f hf).1; omega
theorem claref (h : LaIs false w 0 w.heap.size v a) (hs : a.Small) : Calls Try.prog 15 #[v] w
    fun y w' => (∃ C c, y = .returned (.agg #[.bool a.fifo, .int .i64 a.cap, .slice C a.l.length c]) ∧ LaIs false w' 0 w'.heap.size (.agg #[.bool a.fifo, .int .i64 a.cap, .slice C a.l.length c]) a) ∧ Below w.heap.size w w' := by
  refine (laref_any v a w h hs.len hs.pieces).mono ?_
  rintro y w' ⟨⟨u, rfl, hu⟩, hb⟩
  obtain ⟨C, c, rfl, _⟩ := id hu
  exact ⟨⟨C, c, rfl, hu⟩, hb⟩
theorem clacut (h : LaIs false w 0 w.heap.size v a) (he : La.cut a = b) : Calls Try.prog 35 #[v] w
    fun y w' => (∃ C c, y = .returned (.agg #[.bool b.fifo, .int .i64 b.cap, .slice C b.l.length c]) ∧ LaIs false w' w.heap.size w'.heap.size (.agg #[.bool b.fifo, .int .i64 b.cap, .slice C b.l.length c]) b) ∧ Below w.heap.size w w' := by
  subst he
  refine (lacut_any v a w h).mono ?_
  rintro y w' ⟨⟨u, rfl, hu⟩, hb⟩
  obtain ⟨C, c, rfl, _⟩ := id hu
  exact ⟨⟨C, c, rfl, hu⟩, hb⟩
theorem claright {q : Bool} (h : LaIs false w 0 w.heap.size v a) (hn : a.l.length ≤ 1000000) (hq : La.right a = q) : Calls Try.prog 16 #[v] w fun y w' => y = .returned (.bool q) ∧ Below w.heap.size w w' := by subst hq; exact laright_any v a w h hn
theorem craright {q : Bool} (h : LaIs false w 0 w.heap.size v a) (hq : La.right a = q) : Calls Try.prog 17 #[v] w fun y w' => y = .returned (.bool q) ∧ Below w.heap.size w w' := by subst hq; exact raright_any v a w h
theorem crasame {q : Bool} (h : LaIs false w 0 w.heap.size v a) (h' : LaIs false w 0 w.heap.size u b) (hq : decide (a = b) = q) : Calls Try.prog 25 #[v, u] w fun y w' => y = .returned (.bool q) ∧ Below w.heap.size w w' := by subst hq; exact rasame_any v u a b w h h'
theorem La.right_parts (h : La.right a = true) : kinded a.l ∧ (1 ≤ a.cap ∧ a.cap ≤ 20) ∧ a.l.length ≤ 25 := by
  unfold La.right La.roomy at h
  simp only [Bool.and_eq_true, decide_eq_true_eq] at h
  obtain ⟨h1, h2, h3, h4, h5⟩ := h
  exact ⟨fun f hf => Fr.right_kind (List.all_eq_true.1 h1 f hf), ⟨h2, h3⟩, by omega⟩

/-- An answer of a push, kept in a new box. -/
def PushPost (L : TypeId) (W : World) (lo : Nat) (n : Int) (b : La) (p q : Value) (w : World) : Prop :=
  ∃ g C c, p = .pointer (some ⟨g, 0, none⟩) ∧ q = .int .i64 n ∧ Box w g #[.bool b.fifo, .int .i64 b.cap, .slice C b.l.length c] L ∧ LaIs false w lo w.heap.size (.agg #[.bool b.fifo, .int .i64 b.cap, .slice C b.l.length c]) b ∧ W.heap.size ≤ g ∧ Below W.heap.size W w
theorem PushPost.mk_ {L : TypeId} {W y : World} {n : Int} {C : Option Addr} {c : Nat} {x0 x1 x2 : Value} (hg : Box y g #[x0, x1, x2] L) (hu : LaOn y (outS y lo g) (.agg #[.bool b.fifo, .int .i64 b.cap, .slice C b.l.length c]) b) (hgW : W.heap.size ≤ g) (hV : Below W.heap.size W y) :
    PushPost L W lo n b (.pointer (some ⟨g, 0, none⟩)) (.int .i64 n) (((y.setCell ⟨g, 0, none⟩ (.bool b.fifo)).setCell ⟨g, 1, none⟩ (.int .i64 b.cap)).setCell ⟨g, 2, none⟩ (.slice C b.l.length c)) := by
  refine ⟨g, C, c, rfl, rfl, blk_set (blk_set (blk_set hg 0 _) 1 _) 2 _, ?_, hgW, ((hV.setCell hgW _).setCell hgW _).setCell hgW _⟩
  exact LaOn.rng_ (hu.keep fun k hk => three_other hk.2.2) fun k hk => ⟨hk.1, by rw [three_size]; exact hk.2.1⟩

theorem crmsgs {xs ys : List (Int × Int)} {q : Bool} (h : SliceIs Rep.msg false w 0 w.heap.size v xs) (h' : SliceIs Rep.msg false w 0 w.heap.size u ys) (hq : decide (xs = ys) = q) :
    Calls Try.prog 31 #[v, u] w fun x w' => x = .returned (.bool q) ∧ Below w.heap.size w w' := by
  subst hq
  exact (msgs_any v u xs ys w h h').mono fun x w' h => ⟨h.1, h.2.below⟩
theorem clamsgs {xs : List (Int × Int)} (h : LaIs false w 0 w.heap.size v a) (hn : a.l.length ≤ 1000000) (hq : La.msgs a = xs) : Calls Try.prog 32 #[v] w
    fun y w' => (∃ A c, y = .returned (.slice A xs.length c) ∧ SliceIs Rep.msg false w' 0 w'.heap.size (.slice A xs.length c) xs) ∧ Below w.heap.size w w' := by
  subst hq
  refine (lamsgs_any v a w h hn).mono ?_
  rintro y w' ⟨⟨u, rfl, hu⟩, hb⟩
  obtain ⟨A, c, rfl, _⟩ := id hu
  exact ⟨⟨A, c, rfl, (hu.widen (Nat.zero_le _) (Nat.le_refl _)).soft⟩, hb⟩
theorem cramsgs {xs : List (Int × Int)} (h : LaIs false w 0 w.heap.size v a) (hn : a.l.length ≤ 1000000) (hq : La.msgs a = xs) : Calls Try.prog 33 #[v] w
    fun y w' => (∃ A c, y = .returned (.slice A xs.length c) ∧ SliceIs Rep.msg false w' 0 w'.heap.size (.slice A xs.length c) xs) ∧ Below w.heap.size w w' := by
  subst hq
  refine (ramsgs_any v a w h hn).mono ?_
  rintro y w' ⟨⟨u, rfl, hu⟩, hb⟩
  obtain ⟨A, c, rfl, _⟩ := id hu
  exact ⟨⟨A, c, rfl, (hu.widen (Nat.zero_le _) (Nat.le_refl _)).soft⟩, hb⟩
theorem clafits {n : Int} {q : Bool} (h : LaIs false w 0 w.heap.size v a) (hcap : 1 ≤ a.cap ∧ a.cap ≤ 20) (hkd : kinded a.l) (hn : a.l.length ≤ 1000000) (hq : La.fits a n = q) : Calls Try.prog 29 #[v, .int .i64 n] w
    fun y w' => y = .returned (.bool q) ∧ Below w.heap.size w w' := by subst hq; exact lafits_any v a w h n hcap hkd hn
theorem crafits {n : Int} {q : Bool} (h : LaIs false w 0 w.heap.size v a) (hcap : 1 ≤ a.cap ∧ a.cap ≤ 20) (hq : La.fits a n = q) : Calls Try.prog 30 #[v, .int .i64 n] w
    fun y w' => y = .returned (.bool q) ∧ Below w.heap.size w w' := by subst hq; exact rafits_any v a w h n hcap
theorem clacount {k : Int} {n : Nat} (h : LaIs false w 0 w.heap.size v a) (hk : (Lit.int .i64 k).wf = true) (hkd : kinded a.l) (hn : a.l.length ≤ 1000000) (hq : La.cnt k a.l = n) : Calls Try.prog 28 #[v, .int .i64 k] w
    fun y w' => y = .returned (.int .i64 (n : Int)) ∧ Below w.heap.size w w' := by subst hq; exact lacount_any v a w h k hk hkd hn
theorem cracount {k : Int} {n : Nat} (h : LaIs false w 0 w.heap.size v a) (hq : La.cnt k a.l = n) : Calls Try.prog 27 #[v, .int .i64 k] w
    fun y w' => y = .returned (.int .i64 (n : Int)) ∧ Below w.heap.size w w' := by subst hq; exact racount_any v a k w h
theorem claapps {n : Nat} (h : LaIs false w 0 w.heap.size v a) (hkd : kinded a.l) (hn : a.l.length ≤ 1000000) (hq : La.cnt 0 a.l = n) : Calls Try.prog 26 #[v] w
    fun y w' => y = .returned (.int .i64 (n : Int)) ∧ Below w.heap.size w w' := by subst hq; exact laapps_any v a w h hkd hn
end Go.Proofs.Ytkkbblpofhenpaa

/- cameolaw08.fixed: calls whose answers the document fixes. -/
namespace Go.Proofs.Ytkkbblpofhenpaa
open Go.RowKit

theorem lanil (fi : Bool) (cp : Int) (w : World) : LaIs false w 0 w.heap.size (.agg #[.bool fi, .int .i64 cp, .slice none 0 0]) ⟨fi, cp, []⟩ := ⟨none, 0, rfl, SliceIs.none_⟩
theorem frM_on (w : World) (S : Nat → Prop) : FrOn false w S (.agg #[.int .i64 1, .int .i64 1, .int .i64 0, .int .i64 0, .slice none 0 0, .int .i64 0, .int .i64 0, .int .i64 0, .slice none 0 0]) ⟨1, 1, 0, 0, [], 0, 0, 0, []⟩ := ⟨none, none, 0, 0, rfl, SliceOn.none_, SliceOn.none_⟩
theorem msg_one (w : World) (s t : Int) : SliceIs Rep.msg false (w.alloc (.cells #[.int .i64 s, .int .i64 t] 33)) 0 (w.alloc (.cells #[.int .i64 s, .int .i64 t] 33)).heap.size (.slice (some ⟨w.heap.size, 0, none⟩) 1 1) [(s, t)] :=
  SliceOn.is_ (SliceOn.of_block (r := Rep.msg) (xs := [(s, t)]) (cells := [.int .i64 s, .int .i64 t]) (Box.new w _ _) (Rep.all_single rfl) ⟨Nat.zero_le _, (Box.new w _ _).lt⟩ rfl (Nat.le_refl _) (by unfold maxLen; omega))
instance (l : List Fr) : Decidable (kinded l) := by unfold kinded; infer_instance
set_option maxRecDepth 100000 in
set_option maxHeartbeats 8000000 in
theorem fixed8_any (w : World) : Calls Try.prog 34 #[] w fun x w' => x = .returned (.bool true) ∧ Below w.heap.size w w' := by
  have hB : Below w.heap.size w w := Below.refl _ _
  go_enter Try.func34, Try.ntmps34
  try simp only [List.append_eq, List.cons_append, List.nil_append]
  go_wp2_with fail
  refine (capp 1 _).mono ?_
  rintro e w1 ⟨rfl, hb⟩
  replace hB := hB.trans (hb.mono hB.size)
  clear hb
  go_wp2_with fail
  refine (cpushI (lo := 0) (a := ⟨true, 1, []⟩) (f := appF 1) ⟨true, 1, [appF 1]⟩ 0 (Nat.zero_le _) (lanil true 1 _) ((appF_on 1 _ (rng 0 _)).rng_ (fun _ q => q)) (by decide) (by decide) (by decide)).mono ?_
  rintro e w2 ⟨⟨C1, c1, rfl, ha⟩, hb⟩
  replace hB := hB.trans (hb.mono hB.size)
  clear hb
  dsimp only [List.length_cons, List.length_nil, Nat.reduceAdd, Nat.zero_add, appF] at ha ⊢
  replace ha : LaIs false w2 0 w2.heap.size (.agg #[.bool true, .int .i64 1, .slice C1 1 c1]) ⟨true, 1, [appF 1]⟩ := ha
  go_upto_region 2 with fail
  refine name_wp fun W1 hW1 => ?_
  have bxa : Box W1 w2.heap.size #[.bool true, .int .i64 1, .slice C1 1 c1] 25 := hW1 ▸ Box.new _ _ _
  have hb : Below w2.heap.size w2 W1 := hW1 ▸ (Below.refl _ _).alloc (Nat.le_refl _) _
  clear hW1
  replace ha := ha.next hb
  replace hB := hB.trans (hb.mono hB.size)
  clear hb
  have HA := Lib.hid ha
  have HLO := Lib.hid (Nat.zero_le W1.heap.size)
  have bxr := bxa
  go_cut [3, 4] (fun u x wx => PushPost 25 W1 0 6 ⟨false, 0, []⟩ u x wx)
  case first =>
    have hV := (Below.refl W1.heap.size W1).drew
    replace bxr := bxr.next ((Below.refl _ _).drew)
    refine region_go 6 (by kernel_rfl) ?_
    obtain ⟨c0, c1, c2⟩ := three_cells bxr
    refine wpAny_reads 6 0 [0] 1 8 (by kernel_rfl) (by kernel_rfl) (fun _ _ _ _ _ h => h) (by kernel_rfl) (by rfl) (by rfl) (by kernel_rfl) ?_
    simp only [List.map_cons, List.map_nil, List.getD_cons_zero]
    go_wp2_with fail
    change _ → wpAnyM _ _ _ _ _ _ _ _ _ _; intro _
    clear c0 c1 c2
    refine name_any fun y0 hy => ?_
    have s0 : W1.heap.size ≤ y0.heap.size := by rw [← hy]; simp
    rw [hy] at hV
    clear hy bxr
    refine wpAny_twoM 1 6 3 65 (by kernel_rfl) (by kernel_rfl) (of_decide_eq_true (by kernel_rfl)) (of_decide_eq_true (by kernel_rfl)) (by rfl) (by rfl) ?_ ?_
    ·
      simp only [List.getD_cons_succ, List.getD_cons_zero]
      go_wp2_with fail
      refine (capp 2 _).mono ?_
      rintro e y1 ⟨rfl, hh⟩
      have hr := appF_on 2 y1 (also (rng 0 W1.heap.size) y0.heap.size y1.heap.size)
      replace hV := hV.trans (hh.mono s0)
      have s1 := Nat.le_trans s0 hh.size
      clear hh
      go_wp2_with fail
      refine ⟨fun _ => Ext.below (below_drewL hV) (Nat.le_refl _), ?_⟩
      refine wpAny_twoM 2 6 7 67 (by kernel_rfl) (by kernel_rfl) (of_decide_eq_true (by kernel_rfl)) (of_decide_eq_true (by kernel_rfl)) (by rfl) (by rfl) ?_ ?_
      ·
        simp only [List.getD_cons_succ, List.getD_cons_zero]
        go_wp2_with fail
        refine (cpushI ⟨false, 0, []⟩ 6 (Nat.le_trans HLO.out s1) ((HA.out.keep fun _ _ q => hV.block _ q).widen (Nat.le_refl _) s1) (hr.rng_ (fun _ q => q.elim (fun q => ⟨q.1, Nat.lt_of_lt_of_le q.2 s1⟩) (fun q => ⟨Nat.le_trans (Nat.le_trans HLO.out s0) q.1, q.2⟩))) (by decide) (by decide) (by decide)).mono ?_
        rintro e y2 ⟨⟨LC, lc, rfl, hu⟩, hh⟩
        replace hV := hV.trans (hh.mono s1)
        have s2 := Nat.le_trans s1 hh.size
        clear hh
        go_wp2_with fail
        refine ⟨fun _ => Ext.below (below_drewL hV) (Nat.le_refl _), ?_⟩
        refine wpAny_go 6 7 [3, 4] 31 4 (by kernel_rfl) (by kernel_rfl) (fun _ _ _ _ _ h => h) (by kernel_rfl) (by rfl) (by rfl) (by kernel_rfl) ?_
        simp only [List.map_cons, List.map_nil, List.getD_cons_succ, List.getD_cons_zero]
        go_wp2_with fail
        change wpAnyM _ _ _ _ _ _ _ _ _ _
        refine wpAny_takeM 5 rfl (by kernel_rfl) (by rfl : 31 ||| 2 ^ 5 = 63) (by kernel_rfl) (by kernel_rfl) (by kernel_rfl) (by kernel_rfl) (fun _ _ _ h => h) (.inl ⟨by rfl, fun w => by (go_simp; try with_reducible rfl)⟩) ?_
        refine wpAny_oneM 6 127 (by kernel_rfl) (by kernel_rfl) (of_decide_eq_true (by kernel_rfl)) (by rfl) ?_
        simp only [List.getD_cons_succ, List.getD_cons_zero]
        go_wp2_with fail
        refine ⟨fun h => absurd h (by decide), name_any fun y3 hw => ?_⟩
        have hg : Box y3 y2.heap.size #[.bool false, .int .i64 0, .slice none 0 0] 25 := hw ▸ Box.new _ _ _
        have hh : Below y2.heap.size y2 y3 := hw ▸ (Below.refl _ _).alloc (Nat.le_refl _) _
        have z3 : y2.heap.size < y3.heap.size := hw ▸ (by simp)
        clear hw
        replace hu := hu.out_new hh
        replace hV := hV.trans (hh.mono s2)
        have s3 := Nat.le_trans s2 hh.size
        clear hh
        obtain ⟨d0, d1, d2⟩ := three_cells hg
        have df0 := three_free hg 0
        have df1 := three_free hg 1
        have df2 := three_free hg 2
        have hgl := hg.lt
        refine wpAny_go 6 127 [7, 8] 511 0 (by kernel_rfl) (by kernel_rfl) (fun _ _ _ _ _ h => h) (by kernel_rfl) (by rfl) (by rfl) (by kernel_rfl) ?_
        simp only [List.map_cons, List.map_nil, List.getD_cons_succ, List.getD_cons_zero]
        go_wp2_with fail
        change wpAnyM _ _ _ _ _ _ _ _ _ _
        clear d0 d1 d2
        clear df0 df1 df2
        refine wpAny_endM (by kernel_rfl) (by kernel_rfl) ?_
        go_wp2_with fail
        go_meet
        exact PushPost.mk_ hg hu s2 hV
      ·
        simp only [List.getD_cons_succ, List.getD_cons_zero]
        go_wp2_with fail
        refine ⟨fun h => absurd h (by decide), name_any fun y2 hw => ?_⟩
        have hg : Box y2 y1.heap.size #[.bool false, .int .i64 0, .slice none 0 0] 25 := hw ▸ Box.new _ _ _
        have hh : Below y1.heap.size y1 y2 := hw ▸ (Below.refl _ _).alloc (Nat.le_refl _) _
        have z2 : y1.heap.size < y2.heap.size := hw ▸ (by simp)
        clear hw
        replace hr := FrIs.out_new (hr.rng_ (lo := 0) (fun _ q => q.elim (fun q => ⟨q.1, Nat.lt_of_lt_of_le q.2 s1⟩) (fun q => ⟨Nat.le_trans (Nat.le_trans HLO.out s0) q.1, q.2⟩))) hh
        replace hV := hV.trans (hh.mono s1)
        have s2 := Nat.le_trans s1 hh.size
        clear hh
        refine wpAny_oneM 2 71 (by kernel_rfl) (by kernel_rfl) (of_decide_eq_true (by kernel_rfl)) (by rfl) ?_
        simp only [List.getD_cons_succ, List.getD_cons_zero]
        go_wp2_with fail
        refine (cpushO ⟨false, 0, []⟩ 6 (Nat.le_trans HLO.out s2) hg.lt ((HA.out.keep fun _ _ q => hV.block _ q).out_low s1 s2) hr (by decide) (by decide) (by decide)).mono ?_
        rintro e y3 ⟨⟨LC, lc, rfl, hu⟩, hh⟩
        replace hg := hg.next hh
        replace hV := hV.trans (hh.mono s2)
        have s3 := Nat.le_trans s2 hh.size
        clear hh
        go_wp2_with fail
        refine ⟨fun _ => Ext.below (below_drewL hV) (Nat.le_refl _), ?_⟩
        refine wpAny_go 6 71 [3, 4] 95 3 (by kernel_rfl) (by kernel_rfl) (fun _ _ _ _ _ h => h) (by kernel_rfl) (by rfl) (by rfl) (by kernel_rfl) ?_
        simp only [List.map_cons, List.map_nil, List.getD_cons_succ, List.getD_cons_zero]
        go_wp2_with fail
        change wpAnyM _ _ _ _ _ _ _ _ _ _
        refine wpAny_takeM 5 rfl (by kernel_rfl) (by rfl : 95 ||| 2 ^ 5 = 127) (by kernel_rfl) (by kernel_rfl) (by kernel_rfl) (by kernel_rfl) (fun _ _ _ h => h) (.inl ⟨by rfl, fun w => by (go_simp; try with_reducible rfl)⟩) ?_
        obtain ⟨d0, d1, d2⟩ := three_cells hg
        have df0 := three_free hg 0
        have df1 := three_free hg 1
        have df2 := three_free hg 2
        have hgl := hg.lt
        refine wpAny_go 6 127 [7, 8] 511 0 (by kernel_rfl) (by kernel_rfl) (fun _ _ _ _ _ h => h) (by kernel_rfl) (by rfl) (by rfl) (by kernel_rfl) ?_
        simp only [List.map_cons, List.map_nil, List.getD_cons_succ, List.getD_cons_zero]
        go_wp2_with fail
        change wpAnyM _ _ _ _ _ _ _ _ _ _
        clear d0 d1 d2
        clear df0 df1 df2
        refine wpAny_endM (by kernel_rfl) (by kernel_rfl) ?_
        go_wp2_with fail
        go_meet
        exact PushPost.mk_ hg hu s1 hV
    ·
      simp only [List.getD_cons_succ, List.getD_cons_zero]
      go_wp2_with fail
      refine ⟨fun h => absurd h (by decide), name_any fun y1 hw => ?_⟩
      have hg : Box y1 y0.heap.size #[.bool false, .int .i64 0, .slice none 0 0] 25 := hw ▸ Box.new _ _ _
      have hh : Below y0.heap.size y0 y1 := hw ▸ (Below.refl _ _).alloc (Nat.le_refl _) _
      have z1 : y0.heap.size < y1.heap.size := hw ▸ (by simp)
      clear hw
      replace hV := hV.trans (hh.mono s0)
      have s1 := Nat.le_trans s0 hh.size
      clear hh
      refine wpAny_oneM 1 67 (by kernel_rfl) (by kernel_rfl) (of_decide_eq_true (by kernel_rfl)) (by rfl) ?_
      simp only [List.getD_cons_succ, List.getD_cons_zero]
      go_wp2_with fail
      refine (capp 2 _).mono ?_
      rintro e y2 ⟨rfl, hh⟩
      have hr := appF_on 2 y2 (outS y2 0 y0.heap.size)
      replace hg := hg.next hh
      replace hV := hV.trans (hh.mono s1)
      have s2 := Nat.le_trans s1 hh.size
      clear hh
      go_wp2_with fail
      refine ⟨fun _ => Ext.below (below_drewL hV) (Nat.le_refl _), ?_⟩
      refine wpAny_oneM 2 71 (by kernel_rfl) (by kernel_rfl) (of_decide_eq_true (by kernel_rfl)) (by rfl) ?_
      simp only [List.getD_cons_succ, List.getD_cons_zero]
      go_wp2_with fail
      refine (cpushO ⟨false, 0, []⟩ 6 (Nat.le_trans HLO.out s2) hg.lt ((HA.out.keep fun _ _ q => hV.block _ q).out_low s0 s2) hr (by decide) (by decide) (by decide)).mono ?_
      rintro e y3 ⟨⟨LC, lc, rfl, hu⟩, hh⟩
      replace hg := hg.next hh
      replace hV := hV.trans (hh.mono s2)
      have s3 := Nat.le_trans s2 hh.size
      clear hh
      go_wp2_with fail
      refine ⟨fun _ => Ext.below (below_drewL hV) (Nat.le_refl _), ?_⟩
      refine wpAny_go 6 71 [3, 4] 95 3 (by kernel_rfl) (by kernel_rfl) (fun _ _ _ _ _ h => h) (by kernel_rfl) (by rfl) (by rfl) (by kernel_rfl) ?_
      simp only [List.map_cons, List.map_nil, List.getD_cons_succ, List.getD_cons_zero]
      go_wp2_with fail
      change wpAnyM _ _ _ _ _ _ _ _ _ _
      refine wpAny_takeM 5 rfl (by kernel_rfl) (by rfl : 95 ||| 2 ^ 5 = 127) (by kernel_rfl) (by kernel_rfl) (by kernel_rfl) (by kernel_rfl) (fun _ _ _ h => h) (.inl ⟨by rfl, fun w => by (go_simp; try with_reducible rfl)⟩) ?_
      obtain ⟨d0, d1, d2⟩ := three_cells hg
      have df0 := three_free hg 0
      have df1 := three_free hg 1
      have df2 := three_free hg 2
      have hgl := hg.lt
      refine wpAny_go 6 127 [7, 8] 511 0 (by kernel_rfl) (by kernel_rfl) (fun _ _ _ _ _ h => h) (by kernel_rfl) (by rfl) (by rfl) (by kernel_rfl) ?_
      simp only [List.map_cons, List.map_nil, List.getD_cons_succ, List.getD_cons_zero]
      go_wp2_with fail
      change wpAnyM _ _ _ _ _ _ _ _ _ _
      clear d0 d1 d2
      clear df0 df1 df2
      refine wpAny_endM (by kernel_rfl) (by kernel_rfl) ?_
      go_wp2_with fail
      go_meet
      exact PushPost.mk_ hg hu s0 hV
  case rest =>
    obtain ⟨_, _, _, rfl, rfl, _, _, _, hb⟩ := hcut
    obtain ⟨w3, rfl⟩ : ∃ x : World, x = wc := ⟨_, rfl⟩
    clear HA HLO bxr
    replace ha := ha.next hb
    replace bxa := bxa.next hb
    replace hB := hB.trans (hb.mono hB.size)
    clear hb
    obtain ⟨d0, d1, d2⟩ := three_cells bxa
    have hl0 := bxa.lt
    go_wp2_with fail
    clear d0 d1 d2
    clear hl0
    refine (cpushI (lo := 0) (a := ⟨true, 1, [appF 1]⟩) (f := ⟨1, 1, 0, 0, [], 0, 0, 0, []⟩) ⟨true, 1, [appF 1, ⟨1, 1, 0, 0, [], 0, 0, 0, []⟩]⟩ 0 (Nat.zero_le _) ha ((frM_on _ (rng 0 _)).rng_ (fun _ q => q)) (by decide) (by decide) (by decide)).mono ?_
    rintro e w4 ⟨⟨C4, c4, rfl, hbb⟩, hb⟩
    replace ha := ha.next hb
    replace bxa := bxa.next hb
    replace hB := hB.trans (hb.mono hB.size)
    clear hb
    dsimp only [List.length_cons, List.length_nil, Nat.reduceAdd, Nat.zero_add, appF] at hbb ⊢
    replace hbb : LaIs false w4 0 w4.heap.size (.agg #[.bool true, .int .i64 1, .slice C4 2 c4]) ⟨true, 1, [appF 1, ⟨1, 1, 0, 0, [], 0, 0, 0, []⟩]⟩ := hbb
    obtain ⟨d0, d1, d2⟩ := three_cells bxa
    have hl0 := bxa.lt
    go_wp2_with fail
    clear d0 d1 d2
    clear hl0
    refine name_call fun W4 hW4 => ?_
    have bxb : Box W4 (w4.heap.size) #[.bool true, .int .i64 1, .slice C4 2 c4] 25 := hW4 ▸ (Box.new' #[.bool true, .int .i64 1, .slice C4 2 c4] 25 (by simp))
    have hb : Below w4.heap.size w4 W4 := hW4 ▸ ((Below.refl _ _).alloc (by first | (simp; done) | (simp; omega)) _)
    clear hW4
    replace ha := ha.next hb
    replace bxa := bxa.next hb
    replace hbb := hbb.next hb
    replace hB := hB.trans (hb.mono hB.size)
    clear hb
    refine (cpushI (lo := 0) (a := ⟨true, 1, [appF 1]⟩) (f := ⟨0, 0, 0, 0, [], 0, 0, 0, []⟩) ⟨false, 0, []⟩ 4 (Nat.zero_le _) ha frzero_is (by decide) (by decide) (by decide)).mono ?_
    rintro e w5 ⟨⟨C5, c5, rfl, _⟩, hb⟩
    replace ha := ha.next hb
    replace bxa := bxa.next hb
    replace hbb := hbb.next hb
    replace bxb := bxb.next hb
    replace hB := hB.trans (hb.mono hB.size)
    clear hb
    dsimp only [List.length_nil]
    clear ha bxa
    obtain ⟨d0, d1, d2⟩ := three_cells bxb
    have hl0 := bxb.lt
    go_wp2_with fail
    clear d0 d1 d2
    clear hl0
    refine name_call fun W5 hW5 => ?_
    have _z : Box W5 (w5.heap.size) #[.bool false, .int .i64 0, .slice C5 0 c5] 25 := hW5 ▸ (Box.new' #[.bool false, .int .i64 0, .slice C5 0 c5] 25 (by simp))
    have hb : Below w5.heap.size w5 W5 := hW5 ▸ ((Below.refl _ _).alloc (by first | (simp; done) | (simp; omega)) _)
    clear hW5
    replace hbb := hbb.next hb
    replace bxb := bxb.next hb
    replace hB := hB.trans (hb.mono hB.size)
    clear hb
    clear _z
    refine (ctakeI (lo := 0) (a := ⟨true, 1, [appF 1, ⟨1, 1, 0, 0, [], 0, 0, 0, []⟩]⟩) ⟨0, 0, 0, 0, [], 0, 0, 0, []⟩ ⟨false, 0, []⟩ 3 1 (Nat.zero_le _) hbb (by decide) (by decide) (by decide) (by decide)).mono ?_
    rintro e w6 ⟨⟨A6, k6, B6, l6, C6, c6, rfl, _, _⟩, hb⟩
    replace hbb := hbb.next hb
    replace bxb := bxb.next hb
    replace hB := hB.trans (hb.mono hB.size)
    clear hb
    dsimp only [List.length_nil]
    obtain ⟨d0, d1, d2⟩ := three_cells bxb
    have hl0 := bxb.lt
    go_wp2_with fail
    clear d0 d1 d2
    clear hl0
    refine name_call fun W6 hW6 => ?_
    have _y : Box W6 (w6.heap.size) #[.int .i64 0, .int .i64 0, .int .i64 0, .int .i64 0, .slice A6 0 k6, .int .i64 0, .int .i64 0, .int .i64 0, .slice B6 0 l6] 37 := hW6 ▸ ((Box.new' #[.int .i64 0, .int .i64 0, .int .i64 0, .int .i64 0, .slice A6 0 k6, .int .i64 0, .int .i64 0, .int .i64 0, .slice B6 0 l6] 37 (by simp)).alloc _)
    have _z : Box W6 (w6.heap.size + 1) #[.bool false, .int .i64 0, .slice C6 0 c6] 25 := hW6 ▸ (Box.new' #[.bool false, .int .i64 0, .slice C6 0 c6] 25 (by simp))
    have hb : Below w6.heap.size w6 W6 := hW6 ▸ (((Below.refl _ _).alloc (by first | (simp; done) | (simp; omega)) _).alloc (by first | (simp; done) | (simp; omega)) _)
    clear hW6
    replace hbb := hbb.next hb
    replace bxb := bxb.next hb
    replace hB := hB.trans (hb.mono hB.size)
    clear hb
    clear _y
    clear _z
    refine (ctakeI (lo := 0) (a := ⟨true, 1, [appF 1, ⟨1, 1, 0, 0, [], 0, 0, 0, []⟩]⟩) (appF 1) ⟨true, 1, [⟨1, 1, 0, 0, [], 0, 0, 0, []⟩]⟩ 0 0 (Nat.zero_le _) hbb (by decide) (by decide) (by decide) (by decide)).mono ?_
    rintro e w7 ⟨⟨A7, k7, B7, l7, C7, c7, rfl, _, hc⟩, hb⟩
    replace hbb := hbb.next hb
    replace bxb := bxb.next hb
    replace hB := hB.trans (hb.mono hB.size)
    clear hb
    dsimp only [List.length_cons, List.length_nil, Nat.reduceAdd, Nat.zero_add, appF] at hc ⊢
    replace hc : LaIs false w7 0 w7.heap.size (.agg #[.bool true, .int .i64 1, .slice C7 1 c7]) ⟨true, 1, [⟨1, 1, 0, 0, [], 0, 0, 0, []⟩]⟩ := hc
    go_wp2_with fail
    refine name_call fun W7 hW7 => ?_
    have bxx : Box W7 (w7.heap.size) #[.int .i64 0, .int .i64 0, .int .i64 1, .int .i64 0, .slice A7 0 k7, .int .i64 0, .int .i64 0, .int .i64 0, .slice B7 0 l7] 37 := hW7 ▸ ((Box.new' #[.int .i64 0, .int .i64 0, .int .i64 1, .int .i64 0, .slice A7 0 k7, .int .i64 0, .int .i64 0, .int .i64 0, .slice B7 0 l7] 37 (by simp)).alloc _)
    have bxc : Box W7 (w7.heap.size + 1) #[.bool true, .int .i64 1, .slice C7 1 c7] 25 := hW7 ▸ (Box.new' #[.bool true, .int .i64 1, .slice C7 1 c7] 25 (by simp))
    have hb : Below w7.heap.size w7 W7 := hW7 ▸ (((Below.refl _ _).alloc (by first | (simp; done) | (simp; omega)) _).alloc (by first | (simp; done) | (simp; omega)) _)
    clear hW7
    replace hbb := hbb.next hb
    replace bxb := bxb.next hb
    replace hc := hc.next hb
    replace hB := hB.trans (hb.mono hB.size)
    clear hb
    refine (ctakeI (lo := 0) (a := ⟨true, 1, [⟨1, 1, 0, 0, [], 0, 0, 0, []⟩]⟩) ⟨0, 0, 0, 0, [], 0, 0, 0, []⟩ ⟨false, 0, []⟩ 3 1 (Nat.zero_le _) hc (by decide) (by decide) (by decide) (by decide)).mono ?_
    rintro e w8 ⟨⟨A8, k8, B8, l8, C8, c8, rfl, _, _⟩, hb⟩
    replace hbb := hbb.next hb
    replace bxb := bxb.next hb
    replace hc := hc.next hb
    replace bxx := bxx.next hb
    replace bxc := bxc.next hb
    replace hB := hB.trans (hb.mono hB.size)
    clear hb
    dsimp only [List.length_nil]
    obtain ⟨d0, d1, d2⟩ := three_cells bxb
    have hl0 := bxb.lt
    go_wp2_with fail
    clear d0 d1 d2
    clear hl0
    refine name_call fun W8 hW8 => ?_
    have _y : Box W8 (w8.heap.size) #[.int .i64 0, .int .i64 0, .int .i64 0, .int .i64 0, .slice A8 0 k8, .int .i64 0, .int .i64 0, .int .i64 0, .slice B8 0 l8] 37 := hW8 ▸ (((Box.new' #[.int .i64 0, .int .i64 0, .int .i64 0, .int .i64 0, .slice A8 0 k8, .int .i64 0, .int .i64 0, .int .i64 0, .slice B8 0 l8] 37 (by simp)).alloc _).alloc _)
    have _z : Box W8 (w8.heap.size + 1) #[.bool false, .int .i64 0, .slice C8 0 c8] 25 := hW8 ▸ ((Box.new' #[.bool false, .int .i64 0, .slice C8 0 c8] 25 (by simp)).alloc _)
    have bxd : Box W8 (w8.heap.size + 1 + 1) #[.bool false, .int .i64 2, .slice C4 2 c4] 25 := hW8 ▸ (Box.new' #[.bool false, .int .i64 2, .slice C4 2 c4] 25 (by simp))
    have hb : Below w8.heap.size w8 W8 := hW8 ▸ ((((Below.refl _ _).alloc (by first | (simp; done) | (simp; omega)) _).alloc (by first | (simp; done) | (simp; omega)) _).alloc (by first | (simp; done) | (simp; omega)) _)
    clear hW8
    replace hbb := hbb.next hb
    replace bxb := bxb.next hb
    replace hc := hc.next hb
    replace bxx := bxx.next hb
    replace bxc := bxc.next hb
    replace hB := hB.trans (hb.mono hB.size)
    clear hb
    clear _y
    clear _z
    have hd : LaIs false W8 0 W8.heap.size (.agg #[.bool false, .int .i64 2, .slice C4 2 c4]) ⟨false, 2, [appF 1, ⟨1, 1, 0, 0, [], 0, 0, 0, []⟩]⟩ := by
      obtain ⟨_, _, he, h1⟩ := id hbb
      cases he
      exact ⟨_, _, rfl, h1⟩
    refine (ctakeI (lo := 0) (a := ⟨false, 2, [appF 1, ⟨1, 1, 0, 0, [], 0, 0, 0, []⟩]⟩) ⟨1, 1, 0, 0, [], 0, 0, 0, []⟩ ⟨false, 2, [appF 1]⟩ 0 1 (Nat.zero_le _) hd (by decide) (by decide) (by decide) (by decide)).mono ?_
    rintro e w9 ⟨⟨A9, k9, B9, l9, C9, c9, rfl, _, _⟩, hb⟩
    replace hbb := hbb.next hb
    replace bxb := bxb.next hb
    replace hc := hc.next hb
    replace bxx := bxx.next hb
    replace bxc := bxc.next hb
    replace bxd := bxd.next hb
    replace hB := hB.trans (hb.mono hB.size)
    clear hb
    dsimp only [List.length_cons, List.length_nil, Nat.reduceAdd, Nat.zero_add, appF] at ⊢
    clear hd bxd
    obtain ⟨d0, d1, d2⟩ := three_cells bxb
    have hl0 := bxb.lt
    obtain ⟨g0, g1, g2⟩ := three_cells bxc
    have hl1 := bxc.lt
    obtain ⟨c0, c1, c2, c3, c4, c5, c6, c7, c8⟩ := nine_cells bxx
    have hl2 := bxx.lt
    go_wp2_with fail
    clear d0 d1 d2
    clear g0 g1 g2
    clear c0 c1 c2 c3 c4 c5 c6 c7 c8
    clear hl0 hl1 hl2
    refine name_call fun W9 hW9 => ?_
    have bxy : Box W9 (w9.heap.size) #[.int .i64 1, .int .i64 1, .int .i64 0, .int .i64 0, .slice A9 0 k9, .int .i64 0, .int .i64 0, .int .i64 0, .slice B9 0 l9] 37 := hW9 ▸ ((Box.new' #[.int .i64 1, .int .i64 1, .int .i64 0, .int .i64 0, .slice A9 0 k9, .int .i64 0, .int .i64 0, .int .i64 0, .slice B9 0 l9] 37 (by simp)).alloc _)
    have _z : Box W9 (w9.heap.size + 1) #[.bool false, .int .i64 2, .slice C9 1 c9] 25 := hW9 ▸ (Box.new' #[.bool false, .int .i64 2, .slice C9 1 c9] 25 (by simp))
    have hb : Below w9.heap.size w9 W9 := hW9 ▸ (((Below.refl _ _).alloc (by first | (simp; done) | (simp; omega)) _).alloc (by first | (simp; done) | (simp; omega)) _)
    clear hW9
    replace hbb := hbb.next hb
    replace bxb := bxb.next hb
    replace hc := hc.next hb
    replace bxx := bxx.next hb
    replace bxc := bxc.next hb
    replace hB := hB.trans (hb.mono hB.size)
    clear hb
    clear _z
    refine (claright (a := ⟨true, 1, [appF 1, ⟨1, 1, 0, 0, [], 0, 0, 0, []⟩]⟩) (q := true) hbb (by decide) (by decide)).mono ?_
    rintro e w10 ⟨rfl, hb⟩
    replace hbb := hbb.next hb
    replace bxb := bxb.next hb
    replace hc := hc.next hb
    replace bxx := bxx.next hb
    replace bxc := bxc.next hb
    replace bxy := bxy.next hb
    replace hB := hB.trans (hb.mono hB.size)
    clear hb
    obtain ⟨d0, d1, d2⟩ := three_cells bxb
    have hl0 := bxb.lt
    obtain ⟨g0, g1, g2⟩ := three_cells bxc
    have hl1 := bxc.lt
    go_wp2_with fail
    clear d0 d1 d2
    clear hl0
    clear g0 g1 g2
    clear hl1
    refine (claright (a := ⟨false, 0, []⟩) (q := false) (lanil false 0 _) (by decide) (by decide)).mono ?_
    rintro e w11 ⟨rfl, hb⟩
    replace hbb := hbb.next hb
    replace bxb := bxb.next hb
    replace hc := hc.next hb
    replace bxx := bxx.next hb
    replace bxc := bxc.next hb
    replace bxy := bxy.next hb
    replace hB := hB.trans (hb.mono hB.size)
    clear hb
    obtain ⟨d0, d1, d2⟩ := three_cells bxb
    have hl0 := bxb.lt
    obtain ⟨g0, g1, g2⟩ := three_cells bxc
    have hl1 := bxc.lt
    go_wp2_with fail
    clear d0 d1 d2
    clear hl0
    clear g0 g1 g2
    clear hl1
    refine (claapps (a := ⟨true, 1, [appF 1, ⟨1, 1, 0, 0, [], 0, 0, 0, []⟩]⟩) (n := 1) hbb (by decide : kinded [appF 1, ⟨1, 1, 0, 0, [], 0, 0, 0, []⟩]) (by decide) (by decide)).mono ?_
    rintro e w12 ⟨rfl, hb⟩
    replace hbb := hbb.next hb
    replace bxb := bxb.next hb
    replace hc := hc.next hb
    replace bxx := bxx.next hb
    replace bxc := bxc.next hb
    replace bxy := bxy.next hb
    replace hB := hB.trans (hb.mono hB.size)
    clear hb
    obtain ⟨d0, d1, d2⟩ := three_cells bxb
    have hl0 := bxb.lt
    obtain ⟨g0, g1, g2⟩ := three_cells bxc
    have hl1 := bxc.lt
    go_wp2_with fail
    clear d0 d1 d2
    clear hl0
    clear g0 g1 g2
    clear hl1
    refine (clacount (a := ⟨true, 1, [appF 1, ⟨1, 1, 0, 0, [], 0, 0, 0, []⟩]⟩) (k := 1) (n := 1) hbb (by decide) (by decide : kinded [appF 1, ⟨1, 1, 0, 0, [], 0, 0, 0, []⟩]) (by decide) (by decide)).mono ?_
    rintro e w13 ⟨rfl, hb⟩
    replace hbb := hbb.next hb
    replace bxb := bxb.next hb
    replace hc := hc.next hb
    replace bxx := bxx.next hb
    replace bxc := bxc.next hb
    replace bxy := bxy.next hb
    replace hB := hB.trans (hb.mono hB.size)
    clear hb
    obtain ⟨d0, d1, d2⟩ := three_cells bxb
    have hl0 := bxb.lt
    obtain ⟨g0, g1, g2⟩ := three_cells bxc
    have hl1 := bxc.lt
    go_wp2_with fail
    clear d0 d1 d2
    clear hl0
    clear g0 g1 g2
    clear hl1
    refine (clamsgs (a := ⟨true, 1, [appF 1, ⟨1, 1, 0, 0, [], 0, 0, 0, []⟩]⟩) (xs := [(1, 0)]) hbb (by decide) (by decide)).mono ?_
    rintro e w14 ⟨⟨MA, mc, rfl, hm⟩, hb⟩
    replace hbb := hbb.next hb
    replace bxb := bxb.next hb
    replace hc := hc.next hb
    replace bxx := bxx.next hb
    replace bxc := bxc.next hb
    replace bxy := bxy.next hb
    replace hB := hB.trans (hb.mono hB.size)
    clear hb
    dsimp only [List.length_cons, List.length_nil, Nat.reduceAdd] at hm ⊢
    obtain ⟨d0, d1, d2⟩ := three_cells bxb
    have hl0 := bxb.lt
    obtain ⟨g0, g1, g2⟩ := three_cells bxc
    have hl1 := bxc.lt
    go_wp2_with fail
    clear d0 d1 d2
    clear hl0
    clear g0 g1 g2
    clear hl1
    refine name_call fun X1 hX1 => ?_
    have hm2 : SliceIs Rep.msg false X1 0 X1.heap.size (.slice (some ⟨w14.heap.size, 0, none⟩) 1 1) [(1, 0)] := hX1 ▸ msg_one _ _ _
    have hb : Below w14.heap.size w14 X1 := hX1 ▸ (Below.refl _ _).alloc (Nat.le_refl _) _
    clear hX1
    replace hbb := hbb.next hb
    replace bxb := bxb.next hb
    replace hc := hc.next hb
    replace bxx := bxx.next hb
    replace bxc := bxc.next hb
    replace bxy := bxy.next hb
    replace hm := hm.next hb
    replace hB := hB.trans (hb.mono hB.size)
    clear hb
    refine (crmsgs (xs := [(1, 0)]) (ys := [(1, 0)]) (q := true) hm hm2 (by decide)).mono ?_
    rintro e w15 ⟨rfl, hb⟩
    replace hbb := hbb.next hb
    replace bxb := bxb.next hb
    replace hc := hc.next hb
    replace bxx := bxx.next hb
    replace bxc := bxc.next hb
    replace bxy := bxy.next hb
    replace hm := hm.next hb
    replace hB := hB.trans (hb.mono hB.size)
    clear hb
    obtain ⟨d0, d1, d2⟩ := three_cells bxb
    have hl0 := bxb.lt
    obtain ⟨g0, g1, g2⟩ := three_cells bxc
    have hl1 := bxc.lt
    go_wp2_with fail
    clear d0 d1 d2
    clear hl0
    clear g0 g1 g2
    clear hl1
    refine (clafits (a := ⟨true, 1, [appF 1, ⟨1, 1, 0, 0, [], 0, 0, 0, []⟩]⟩) (n := 0) (q := true) hbb (by decide) (by decide : kinded [appF 1, ⟨1, 1, 0, 0, [], 0, 0, 0, []⟩]) (by decide) (by decide)).mono ?_
    rintro e w16 ⟨rfl, hb⟩
    replace hbb := hbb.next hb
    replace bxb := bxb.next hb
    replace hc := hc.next hb
    replace bxx := bxx.next hb
    replace bxc := bxc.next hb
    replace bxy := bxy.next hb
    replace hm := hm.next hb
    replace hB := hB.trans (hb.mono hB.size)
    clear hb
    obtain ⟨d0, d1, d2⟩ := three_cells bxb
    have hl0 := bxb.lt
    obtain ⟨g0, g1, g2⟩ := three_cells bxc
    have hl1 := bxc.lt
    go_wp2_with fail
    clear d0 d1 d2
    clear hl0
    clear g0 g1 g2
    clear hl1
    refine (clafits (a := ⟨true, 1, [appF 1, ⟨1, 1, 0, 0, [], 0, 0, 0, []⟩]⟩) (n := 1) (q := false) hbb (by decide) (by decide : kinded [appF 1, ⟨1, 1, 0, 0, [], 0, 0, 0, []⟩]) (by decide) (by decide)).mono ?_
    rintro e w17 ⟨rfl, hb⟩
    replace hbb := hbb.next hb
    replace bxb := bxb.next hb
    replace hc := hc.next hb
    replace bxx := bxx.next hb
    replace bxc := bxc.next hb
    replace bxy := bxy.next hb
    replace hm := hm.next hb
    replace hB := hB.trans (hb.mono hB.size)
    clear hb
    obtain ⟨d0, d1, d2⟩ := three_cells bxb
    have hl0 := bxb.lt
    obtain ⟨g0, g1, g2⟩ := three_cells bxc
    have hl1 := bxc.lt
    go_wp2_with fail
    clear d0 d1 d2
    clear hl0
    clear g0 g1 g2
    clear hl1
    refine (clafits (a := ⟨true, 1, [⟨1, 1, 0, 0, [], 0, 0, 0, []⟩]⟩) (n := 1) (q := true) hc (by decide) (by decide : kinded [⟨1, 1, 0, 0, [], 0, 0, 0, []⟩]) (by decide) (by decide)).mono ?_
    rintro e w18 ⟨rfl, hb⟩
    replace hbb := hbb.next hb
    replace bxb := bxb.next hb
    replace hc := hc.next hb
    replace bxx := bxx.next hb
    replace bxc := bxc.next hb
    replace bxy := bxy.next hb
    replace hm := hm.next hb
    replace hB := hB.trans (hb.mono hB.size)
    clear hb
    go_wp2_with fail
    go_ret
    exact ⟨rfl, hB⟩
end Go.Proofs.Ytkkbblpofhenpaa

/- Short lanes stay short; answers by value. -/
namespace Go.Proofs.Ytkkbblpofhenpaa
open Go.RowKit

theorem Fr.zero_small : Fr.zero.Small := ⟨Nat.zero_le _, Nat.zero_le _, fun p hp => by cases hp⟩
namespace La
variable {a : La} {f : Fr} {i : Int}
theorem zero_small : La.zero.Small := ⟨Nat.zero_le _, fun p hp => by cases hp⟩
theorem cut_small (a : La) : (La.cut a).Small := by
  refine ⟨by simp only [La.cut, List.length_map, List.length_take]; omega, fun f hf => ?_⟩
  simp only [La.cut, List.mem_map] at hf
  obtain ⟨g, _, rfl⟩ := hf
  exact Fr.cut_small g
theorem more_small (h : a.Small) (hf : f.Small) (hr : La.right (La.more a f) = true) : (La.more a f).Small := by
  refine ⟨by have := (La.right_parts hr).2.2; omega, fun g hg => ?_⟩
  simp only [La.more, List.mem_append, List.mem_singleton] at hg
  rcases hg with hg | rfl
  · exact h.2 g hg
  · exact hf
theorem push_small (h : a.Small) (hf : f.Small) : (La.push a f).Small := by
  unfold La.push
  split
  · rename_i hc
    rw [Bool.and_eq_true] at hc
    exact more_small h hf hc.2
  · exact zero_small
theorem less_small (h : a.Small) (k : Nat) : (La.less a k).Small := by
  refine ⟨?_, fun g hg => ?_⟩
  · have := h.1
    simp only [La.less, List.length_append, List.length_take, List.length_drop]
    omega
  · simp only [La.less, List.mem_append] at hg
    rcases hg with hg | hg
    · exact h.2 g (List.mem_of_mem_take hg)
    · exact h.2 g (List.mem_of_mem_drop hg)
theorem take_small (h : a.Small) : (La.take a i).Small := by
  unfold La.take
  split
  · exact less_small h _
  · exact zero_small
theorem takeF_small (h : a.Small) : (La.takeF a i).Small := by
  unfold La.takeF
  split
  · rename_i hc
    obtain ⟨k, rfl, h1, _⟩ := La.can_yes hc
    rw [Int.toNat_natCast, List.getD_eq_getElem?_getD, List.getElem?_eq_getElem h1]
    exact h.2 _ (List.getElem_mem _)
  · exact Fr.zero_small
/-! ### what was pushed last -/
theorem more_len (a : La) (f : Fr) : (La.more a f).l.length = a.l.length + 1 := by simp [La.more]
theorem push_form (h : Fr.right f = false) : La.push a f = ⟨false, 0, []⟩ ∧ La.pushE a f = 4 := by
  unfold La.push La.pushE; rw [h]; exact ⟨rfl, rfl⟩
theorem push_full (h : Fr.right f = true) (h2 : La.right (La.more a f) = false) : La.push a f = ⟨false, 0, []⟩ ∧ La.pushE a f = 6 := by
  unfold La.push La.pushE; rw [h, h2]; exact ⟨rfl, rfl⟩
theorem push_ok (h : Fr.right f = true) (h2 : La.right (La.more a f) = true) : La.push a f = La.more a f ∧ La.pushE a f = 0 := by
  unfold La.push La.pushE; rw [h, h2]; exact ⟨rfl, rfl⟩
theorem last_fifo (h : a.fifo = true) (h2 : 0 < a.l.length) : La.take (La.more a f) (a.l.length : Int) = ⟨false, 0, []⟩ ∧ La.takeF (La.more a f) (a.l.length : Int) = ⟨0, 0, 0, 0, [], 0, 0, 0, []⟩ ∧ La.takeE (La.more a f) (a.l.length : Int) = 3 := by
  have hc : La.can (La.more a f) (a.l.length : Int) = false := by
    unfold La.can
    have e : decide ((a.l.length : Int) ≤ 0) = false := decide_eq_false (by omega)
    rw [show (La.more a f).fifo = true from h, e]; simp
  unfold La.take La.takeF La.takeE
  rw [hc]
  exact ⟨rfl, rfl, rfl⟩
theorem last_ok (h : a.fifo = true → a.l.length = 0) : La.take (La.more a f) (a.l.length : Int) = a ∧ La.takeF (La.more a f) (a.l.length : Int) = f ∧ La.takeE (La.more a f) (a.l.length : Int) = 0 := by
  have hc : La.can (La.more a f) (a.l.length : Int) = true := by
    unfold La.can
    have e1 : decide (0 ≤ (a.l.length : Int)) = true := decide_eq_true (by omega)
    have e2 : decide ((a.l.length : Int) < ((La.more a f).l.length : Int)) = true := decide_eq_true (by rw [more_len]; omega)
    rw [e1, e2]
    cases hf : a.fifo with
    | false => rw [show (La.more a f).fifo = false from hf]; rfl
    | true =>
      have := h hf
      rw [decide_eq_true (show (a.l.length : Int) ≤ 0 by omega)]; simp
  have hn : ((a.l.length : Int)).toNat = a.l.length := by omega
  unfold La.take La.takeF La.takeE
  rw [hc, hn]
  obtain ⟨fi, cp, l⟩ := a
  refine ⟨?_, ?_, rfl⟩
  · simp [La.less, La.more]
  · simp [La.more]
end La
end Go.Proofs.Ytkkbblpofhenpaa

/- How many of each kind; messages in order. -/
namespace Go.Proofs.Ytkkbblpofhenpaa
open Go.RowKit
theorem LaIs.slice_ {w : World} {lo hi n c : Nat} {A : Option Addr} {x y : Value} {a : La} (h : LaIs false w lo hi (.agg #[x, y, .slice A n c]) a) : SliceIs Rep.frame false w lo hi (.slice A n c) a.l := by
  obtain ⟨_, _, he, h1⟩ := h
  injection he with he
  simp at he
  obtain ⟨_, _, rfl, rfl, rfl⟩ := he
  exact h1
namespace La
theorem cnt_cons (k : Int) (l : List Fr) (f : Fr) : cnt k (f :: l) = cnt k l + (if f.kind = k then 1 else 0) := by
  unfold cnt
  by_cases h : f.kind = k <;> simp [h]
/-- Of the kinds 0 .. j - 1. -/
def sumK (l : List Fr) : Nat → Nat
  | 0 => 0
  | j + 1 => sumK l j + cnt (j : Int) l
theorem sumK_le (l : List Fr) (j : Nat) : sumK l j ≤ j * l.length := by
  induction j with
  | zero => simp [sumK]
  | succ j ih => have := cnt_le (j : Int) l; rw [sumK, Nat.succ_mul]; omega
theorem sumK_all {l : List Fr} (h : kinded l) : sumK l 7 = l.length := by
  induction l with
  | nil => rfl
  | cons f l ih =>
    have h1 := ih (fun g hg => h g (List.mem_cons_of_mem _ hg))
    have h2 := h f (List.mem_cons_self ..)
    simp only [sumK] at h1 ⊢
    simp only [cnt_cons, List.length_cons]
    have hc : f.kind = 0 ∨ f.kind = 1 ∨ f.kind = 2 ∨ f.kind = 3 ∨ f.kind = 4 ∨ f.kind = 5 ∨ f.kind = 6 := by omega
    rcases hc with e | e | e | e | e | e | e <;> simp [e] <;> simp at h1 <;> omega
theorem cnt_none {l : List Fr} (h : kinded l) {k : Int} (hk : k < 0 ∨ 6 < k) : cnt k l = 0 := by
  unfold cnt
  rw [List.length_eq_zero_iff, List.filter_eq_nil_iff]
  intro f hf
  have := h f hf
  simp
  omega
theorem msgs_cnt (l : List Fr) : (La.msgsL l).length = cnt 0 l := by unfold La.msgsL cnt; rw [List.length_map]
theorem msgs_append (l m : List Fr) : La.msgsL (l ++ m) = La.msgsL l ++ La.msgsL m := by unfold La.msgsL; rw [List.filter_append, List.map_append]
theorem msgs_at {l : List Fr} {j : Nat} {f : Fr} (hx : l[j]? = some f) (hk : f.kind = 0) : (La.msgsL l)[cnt 0 (l.take j)]? = some (f.seq, f.letter) := by
  obtain ⟨hj, hf⟩ := List.getElem?_eq_some_iff.1 hx
  have h1 : l = l.take j ++ f :: l.drop (j + 1) := by
    have h := List.take_append_drop j l
    rw [List.drop_eq_getElem_cons hj, hf] at h
    exact h.symm
  have h2 : La.msgsL l = La.msgsL (l.take j) ++ (f.seq, f.letter) :: La.msgsL (l.drop (j + 1)) := by
    rw [h1, msgs_append]
    simp only [← h1]
    congr 1
    simp [La.msgsL, hk]
  rw [h2, ← msgs_cnt]
  simp
theorem cnt_lt {l : List Fr} {j : Nat} {f : Fr} (hx : l[j]? = some f) (hk : f.kind = 0) : cnt 0 (l.take j) < cnt 0 l := by
  have h := msgs_at hx hk
  rw [← msgs_cnt l]
  exact (List.getElem?_eq_some_iff.1 h).1
theorem fits_all {a : La} {n : Nat} (hn : cnt 0 a.l = n) : La.fits a (a.cap - (n : Int)) = true := by
  unfold La.fits; rw [hn]; simp
theorem fits_more {a : La} {n : Nat} (hn : cnt 0 a.l = n) (hr : La.right a = true) : La.fits a (a.cap - (n : Int) + 1) = false := by
  unfold La.right La.roomy at hr
  simp only [Bool.and_eq_true, decide_eq_true_eq] at hr
  obtain ⟨_, _, _, h, _⟩ := hr
  rw [hn] at h
  unfold La.fits; rw [hn, decide_eq_false (by omega), decide_eq_false (by omega)]; rfl
end La
end Go.Proofs.Ytkkbblpofhenpaa

/- Arguments of chapter 8's laws: lanes, lists of truths, of bytes, of calls. -/
namespace Go.Proofs.Ytkkbblpofhenpaa
open Go.ChangeShapes Go.WideShapes Go.ChangeAt Go.RowKit

/-- A truth. -/
def Rep.bool : Rep Bool where
  size := 1
  pos := by omega
  is _ _ _ cs a := cs = [.bool a]
  len h := by rw [h]; rfl
  keep h _ := h
  widen h _ := h
  soft h := h
  one h := by rw [h]; intro u hu; simp at hu; subst hu; rfl
/-- A byte. -/
def Rep.byte : Rep Int where
  size := 1
  pos := by omega
  is _ _ _ cs a := cs = [.int .u8 a] ∧ 0 ≤ a ∧ a ≤ 255
  len h := by rw [h.1]; rfl
  keep h _ := h
  widen h _ := h
  soft h := h
  one h := by rw [h.1]; intro u hu; simp at hu; subst hu; rfl
/-- A call of LaneDoes: a push, or a take of a place. -/
structure LOp where
  push : Bool
  f : Fr
  i : Int
def Rep.lop : Rep LOp where
  size := 11
  pos := by omega
  is fr w S cs o := ∃ a b, cs = .bool o.push :: (fcells o.f a b ++ [.int .i64 o.i]) ∧ SliceOn Rep.piece fr w S a o.f.pieces ∧ SliceOn Rep.int fr w S b o.f.path ∧ (Lit.int .i64 o.i).wf = true
  len h := by obtain ⟨a, b, rfl, _⟩ := h; rfl
  keep h hk := by obtain ⟨a, b, rfl, h1, h2, h3⟩ := h; exact ⟨a, b, rfl, h1.keep hk, h2.keep hk, h3⟩
  widen h k1 := by obtain ⟨a, b, rfl, h1, h2, h3⟩ := h; exact ⟨a, b, rfl, h1.widen k1, h2.widen k1, h3⟩
  soft h := by obtain ⟨a, b, rfl, h1, h2, h3⟩ := h; exact ⟨a, b, rfl, h1.soft, h2.soft, h3⟩
  one h := by
    obtain ⟨a, b, rfl, ⟨_, _, rfl, _⟩, ⟨_, _, rfl, _⟩, _⟩ := h
    intro u hu
    simp [fcells] at hu
    rcases hu with rfl | rfl | rfl | rfl | rfl | rfl | rfl | rfl | rfl | rfl | rfl <;> rfl
section
set_option maxRecDepth 100000
variable {H : Type} {enc : TypeId × Value → H} {W : World}
theorem frame_opens : Opens enc Try.prog W 37 Rep.frame := by
  intro fuel cs x h
  obtain ⟨f, a, b, hc, h1, h2⟩ := opens_frame Try.underlying37 Try.underlying3 Try.underlying3 msg_opens (opens_slice Try.underlying34 (by kernel_rfl) piece_opens) Try.underlying3 Try.underlying3 Try.underlying3 ints_opens (by kernel_rfl)
    ⟨rfl, rfl, rfl, rfl, rfl, rfl, rfl, rfl⟩ ⟨by kernel_rfl, by kernel_rfl, by kernel_rfl, by kernel_rfl, by kernel_rfl, by kernel_rfl, by kernel_rfl, by kernel_rfl⟩ _ _ _ h
  exact ⟨f, a, b, hc, h1, h2⟩
theorem frames_opens : Opens enc Try.prog W 23 Rep.frame.slice := opens_slice Try.underlying23 (by kernel_rfl) frame_opens
theorem bool_opens : Opens enc Try.prog W 4 Rep.bool := by
  intro fuel cs x h
  obtain ⟨b, rfl, _⟩ := DataW.trod_bool Try.underlying4 h
  exact ⟨b, rfl⟩
theorem arg_bools {v : Value} {d : DataW H} {p : List MemPlace} {base : Nat} (hv : Value.okWide Try.prog W .any base 71 v) (h : DataW.Trod enc Try.prog W 0 (fun _ => true) true 71 v d p) :
    ∃ xs : List Bool, SliceIs Rep.bool false W 0 W.heap.size v xs :=
  arg_slice Try.underlying71 (opens_slice Try.underlying71 (by kernel_rfl) bool_opens) hv h
theorem opens_lane {P : Program} {t : TypeId} {f0 f1 f2 : Field} (hs : P.underlying t = some (.struct #[f0, f1, f2])) (h0 : P.underlying f0.type = some .bool) (h1 : P.underlying f1.type = some (.int .i64)) (h2 : Opens enc P W f2.type Rep.frame.slice) (hc : P.cellsOf t = 3)
    (o : f0.offset = 0 ∧ f1.offset = 1 ∧ f2.offset = 2) (c : P.cellsOf f0.type = 1 ∧ P.cellsOf f1.type = 1 ∧ P.cellsOf f2.type = 1)
    (fuel : Nat) (cs : List Value) (x : DataW H × List MemPlace) (h : DataW.trod enc P W 0 (fun _ => true) true fuel t cs = some x) : ∃ (a : La) (u : Value), cs = [.bool a.fifo, .int .i64 a.cap, u] ∧ SliceIs Rep.frame false W 0 W.heap.size u a.l := by
  obtain ⟨o0, o1, o2⟩ := o
  obtain ⟨c0, c1, c2⟩ := c
  obtain ⟨xs, n, _, _, hl, hxl, hf⟩ := DataW.trod_struct hs h
  rw [hc] at hl
  match cs, hl, xs, hxl with
  | [u0, u1, u2], _, [x0, x1, x2], _ =>
    have e0 := hf 0 f0 rfl
    have e1 := hf 1 f1 rfl
    have e2 := hf 2 f2 rfl
    rw [o0, c0] at e0
    rw [o1, c1] at e1
    rw [o2, c2] at e2
    obtain ⟨a0, q0, _⟩ := DataW.trod_bool h0 e0
    obtain ⟨a1, q1, _⟩ := DataW.trod_int h1 e1
    obtain ⟨a2, v2, q2, q2'⟩ := h2 _ _ _ e2
    simp at q0 q1 q2
    subst q0 q1 q2
    exact ⟨⟨a0, a1, a2⟩, _, rfl, q2'⟩
theorem arg_lane {v : Value} {d : DataW H} {p : List MemPlace} {base : Nat} (hv : Value.okWide Try.prog W .any base 25 v) (h : DataW.Trod enc Try.prog W 0 (fun _ => true) true 25 v d p) : ∃ a : La, LaIs false W 0 W.heap.size v a := by
  obtain ⟨cs, rfl, _⟩ := okWide_struct Try.underlying25 hv
  obtain ⟨fuel, hf⟩ := h
  obtain ⟨a, u, hc, h1⟩ := opens_lane Try.underlying25 Try.underlying4 Try.underlying3 frames_opens (by kernel_rfl) ⟨rfl, rfl, rfl⟩ ⟨by kernel_rfl, by kernel_rfl, by kernel_rfl⟩ _ _ _ hf
  refine ⟨a, ?_⟩
  obtain ⟨A, c, rfl, _⟩ := id h1
  have hcs : cs = #[.bool a.fifo, .int .i64 a.cap, .slice A a.l.length c] := by
    apply Array.ext'
    simpa [Value.cells] using hc
  rw [hcs]
  exact ⟨A, c, rfl, h1⟩
theorem byte_opens {P : Program} {t : TypeId} (ht : P.underlying t = some (.int .u8)) : Opens enc P W t Rep.byte := by
  intro fuel cs x h
  obtain ⟨n, rfl, _, hw⟩ := DataW.trod_int ht h
  refine ⟨n, rfl, ?_⟩
  simp only [Lit.wf, Bool.and_eq_true, decide_eq_true_eq] at hw
  exact ⟨hw.1, hw.2⟩
theorem arg_bytes {v : Value} {d : DataW H} {p : List MemPlace} {base : Nat} (hv : Value.okWide Try.prog W .any base 69 v) (h : DataW.Trod enc Try.prog W 0 (fun _ => true) true 69 v d p) :
    ∃ xs : List Int, SliceIs Rep.byte false W 0 W.heap.size v xs :=
  arg_slice Try.underlying69 (opens_slice Try.underlying69 (by kernel_rfl) (byte_opens Try.underlying5)) hv h
theorem opens_lop {P : Program} {t : TypeId} {f0 f1 f2 : Field} (hs : P.underlying t = some (.struct #[f0, f1, f2])) (h0 : P.underlying f0.type = some .bool) (h1 : Opens enc P W f1.type Rep.frame) (h2 : P.underlying f2.type = some (.int .i64)) (hc : P.cellsOf t = 11)
    (o : f0.offset = 0 ∧ f1.offset = 1 ∧ f2.offset = 10) (c : P.cellsOf f0.type = 1 ∧ P.cellsOf f1.type = 9 ∧ P.cellsOf f2.type = 1) : Opens enc P W t Rep.lop := by
  intro fuel cs x h
  obtain ⟨o0, o1, o2⟩ := o
  obtain ⟨c0, c1, c2⟩ := c
  obtain ⟨xs, n, _, _, hl, hxl, hf⟩ := DataW.trod_struct hs h
  rw [hc] at hl
  match cs, hl, xs, hxl with
  | [u0, u1, u2, u3, u4, u5, u6, u7, u8, u9, u10], _, [x0, x1, x2], _ =>
    have e0 := hf 0 f0 rfl
    have e1 := hf 1 f1 rfl
    have e2 := hf 2 f2 rfl
    rw [o0, c0] at e0
    rw [o1, c1] at e1
    rw [o2, c2] at e2
    obtain ⟨a0, q0, _⟩ := DataW.trod_bool h0 e0
    obtain ⟨f, a, b, q1, k1, k2⟩ := h1 _ _ _ e1
    obtain ⟨i, q2, _, hw⟩ := DataW.trod_int h2 e2
    have m1 : [u1, u2, u3, u4, u5, u6, u7, u8, u9] = fcells f a b := q1
    clear q1
    simp at q0 q2
    subst q0 q2
    exact ⟨⟨a0, f, i⟩, a, b, by rw [← m1]; rfl, k1, k2, hw⟩
theorem arg_ops {v : Value} {d : DataW H} {p : List MemPlace} {base : Nat} (hv : Value.okWide Try.prog W .any base 22 v) (h : DataW.Trod enc Try.prog W 0 (fun _ => true) true 22 v d p) :
    ∃ xs : List LOp, SliceIs Rep.lop false W 0 W.heap.size v xs :=
  arg_slice Try.underlying22 (opens_slice Try.underlying22 (by kernel_rfl) (opens_lop Try.underlying40 Try.underlying4 frame_opens Try.underlying3 (by kernel_rfl) ⟨rfl, rfl, rfl⟩ ⟨by kernel_rfl, by kernel_rfl, by kernel_rfl⟩)) hv h
end
end Go.Proofs.Ytkkbblpofhenpaa

/- Lanes of messages and of other frames: what goes in. -/
namespace Go.Proofs.Ytkkbblpofhenpaa
open Go.RowKit
theorem SliceAt.bool {fr : Bool} {w : World} {lo hi k : Nat} {A : Option Addr} {xs : List Bool} {x : Bool} (h : SliceAt Rep.bool fr w lo hi A xs) (hx : xs[k]? = some x) :
    ∃ g o, A = some ⟨g, o, none⟩ ∧ lo ≤ g ∧ g < hi ∧ w.cell? ⟨g, o + k, none⟩ = some (.bool x) := by
  obtain ⟨g, o, cs, rfl, h1, h3, h4⟩ := AtOn.at_ h hx
  have h3' : cs = [.bool x] := h3
  subst h3'
  have := (h4 0 _ rfl).1
  exact ⟨g, o, rfl, h1.1, h1.2, by simpa [Rep.bool] using this⟩
theorem appF_right {k : Int} (h1 : 1 ≤ k) (h2 : k ≤ 500) : Fr.right (appF k) = true := by
  simp [Fr.right, Fr.only, Fr.rule, Fr.app, Pc.within, appF, h1, h2]
def yesF : Fr := ⟨3, 1, 0, 0, [], 0, 0, 0, []⟩
theorem yesF_right : Fr.right yesF = true := by decide
theorem yesF_on (w : World) (S : Nat → Prop) : FrOn false w S (.agg #[.int .i64 3, .int .i64 1, .int .i64 0, .int .i64 0, .slice none 0 0, .int .i64 0, .int .i64 0, .int .i64 0, .slice none 0 0]) yesF := ⟨none, none, 0, 0, rfl, SliceOn.none_, SliceOn.none_⟩
/-- p messages and o others, as many as may be. -/
structure FullInv (l : List Fr) (R : Int) (p o : Nat) : Prop where
  r1 : 1 ≤ R
  r2 : R ≤ 20
  all : l.all Fr.right = true
  c0 : La.cnt 0 l = p
  c3 : La.cnt 3 l = o
  len : l.length = p + o
  pR : (p : Int) ≤ R
  o5 : o ≤ 5
section
variable {l : List Fr} {R : Int} {p o : Nat} {fi : Bool}
theorem FullInv.nil (h1 : 1 ≤ R) (h2 : R ≤ 20) : FullInv [] R 0 0 := ⟨h1, h2, rfl, rfl, rfl, rfl, by omega, by omega⟩
theorem FullInv.right (h : FullInv l R p o) : La.right ⟨fi, R, l⟩ = true := by
  have := h.r1; have := h.r2; have := h.len; have := h.pR; have := h.o5
  unfold La.right La.roomy
  rw [h.all, h.c0, h.len, decide_eq_true h.r1, decide_eq_true h.r2, decide_eq_true h.pR, decide_eq_true (by omega)]; rfl
theorem FullInv.app_yes (h : FullInv l R p o) {k : Int} (h1 : 1 ≤ k) (h2 : k ≤ 500) (hp : (p : Int) < R) : FullInv (l ++ [appF k]) R (p + 1) o ∧ La.push ⟨fi, R, l⟩ (appF k) = ⟨fi, R, l ++ [appF k]⟩ ∧ La.pushE ⟨fi, R, l⟩ (appF k) = 0 := by
  have hi : FullInv (l ++ [appF k]) R (p + 1) o := ⟨h.r1, h.r2, by rw [List.all_append, h.all]; simp [appF_right h1 h2], by rw [La.cnt_snoc, h.c0]; rfl, by rw [La.cnt_snoc, h.c3]; rfl, by rw [List.length_append, h.len]; simp; omega, by omega, h.o5⟩
  exact ⟨hi, La.push_ok (appF_right h1 h2) hi.right⟩
theorem FullInv.app_no (h : FullInv l R p o) {k : Int} (h1 : 1 ≤ k) (h2 : k ≤ 500) (hp : ¬ (p : Int) < R) : La.push ⟨fi, R, l⟩ (appF k) = ⟨false, 0, []⟩ ∧ La.pushE ⟨fi, R, l⟩ (appF k) = 6 := by
  refine La.push_full (appF_right h1 h2) ?_
  have hc : La.cnt 0 (l ++ [appF k]) = p + 1 := by rw [La.cnt_snoc, h.c0]; rfl
  unfold La.right La.roomy La.more
  rw [hc, decide_eq_false (show ¬ (((p + 1 : Nat) : Int) ≤ R) by omega)]; simp
theorem FullInv.yes_yes (h : FullInv l R p o) (hp : o < 5) : FullInv (l ++ [yesF]) R p (o + 1) ∧ La.push ⟨fi, R, l⟩ yesF = ⟨fi, R, l ++ [yesF]⟩ ∧ La.pushE ⟨fi, R, l⟩ yesF = 0 := by
  have hi : FullInv (l ++ [yesF]) R p (o + 1) := ⟨h.r1, h.r2, by rw [List.all_append, h.all]; simp [yesF_right], by rw [La.cnt_snoc, h.c0]; rfl, by rw [La.cnt_snoc, h.c3]; rfl, by rw [List.length_append, h.len]; simp; omega, h.pR, by omega⟩
  exact ⟨hi, La.push_ok yesF_right hi.right⟩
theorem FullInv.yes_no (h : FullInv l R p o) (hp : ¬ o < 5) : La.push ⟨fi, R, l⟩ yesF = ⟨false, 0, []⟩ ∧ La.pushE ⟨fi, R, l⟩ yesF = 6 := by
  refine La.push_full yesF_right ?_
  have hc : La.cnt 0 (l ++ [yesF]) = p := by rw [La.cnt_snoc, h.c0]; rfl
  have := h.len
  unfold La.right La.roomy La.more
  rw [hc, decide_eq_false (show ¬ ((((l ++ [yesF]).length : Nat) : Int) - (p : Int) ≤ 5) by rw [List.length_append, h.len]; simp; omega)]; simp
theorem FullInv.fits1 (h : FullInv l R p o) {q : Bool} (hq : decide ((p : Int) < R) = q) : La.fits ⟨fi, R, l⟩ 1 = q := by
  unfold La.fits
  rw [h.c0, ← hq]
  by_cases hp : (p : Int) < R
  · rw [decide_eq_true hp, decide_eq_true (show (1 : Int) ≤ R - (p : Int) by omega)]; simp
  · rw [decide_eq_false hp, decide_eq_false (show ¬ ((1 : Int) ≤ R - (p : Int)) by omega)]; simp
end
end Go.Proofs.Ytkkbblpofhenpaa
