/- Lemmas, walks and contracts that the statements of this seat are proved by. -/
import Derived.Test.YtdfgnmdofjhnkaaG4
import Derived.Deep.DeepCutAuto
import Derived.Laws.EntriesVeiled
/- piece.lists, as Decode uses it. -/
namespace Go.Proofs.Ytdfgnmdofjhnkaa
open Go.RowKit

theorem Try.infoMsg : (Try.prog.info? 47).map (fun i => (i.zero, i.size, i.bytes)) = some (some (.agg #[.int .i64 0, .int .i64 0]), 2, 16) := by kernel_rfl
theorem Try.infoInts : (Try.prog.info? 22).map (fun i => (i.zero, i.size, i.bytes)) = some (some (.slice none 0 0), 1, 24) := by kernel_rfl
theorem Try.infoMsgs : (Try.prog.info? 45).map (fun i => (i.zero, i.size, i.bytes)) = some (some (.slice none 0 0), 1, 24) := by kernel_rfl

structure ListInv {α : Type} (r : Rep α) (one : List Int → α × List Int) (e : TypeId) (g lo gn gc B : Nat) (w : World) (l0 : List Int) (j : Nat) (v : Value) (wr : World) : Prop where
  own : ∃ cells S, wr.ownsRow B e r.size v j cells ∧ r.all true wr S cells (Pc.rep one j l0).1 ∧ (∀ b, S b → B ≤ b ∧ b < wr.heap.size) ∧ (∀ b, v.ownBlock = some b → ¬ S b)
  env : Env g gn gc wr
  rdr : Rdr g lo wr (Pc.rep one j l0).2
  only : w.grownBy wr (some g)
  base : gc < B ∧ B = w.heap.size

section
variable {α : Type} {r : Rep α} {one : List Int → α × List Int} {e : TypeId} {g lo gn gc B : Nat} {w wr w1 : World} {l0 : List Int} {j : Nat} {v : Value} {cs : List Value}
theorem ListInv.start (he : Env g gn gc w) (hr : Rdr g lo w l0) (hlt : gc < w.heap.size) : ListInv r one e g lo gn gc w.heap.size w l0 0 (.slice none 0 0) w :=
  ⟨⟨[], fun _ => False, World.ownsRow_nil _ _ _ _, rfl, fun _ h => h.elim, fun _ h => by simp [Value.ownBlock] at h⟩, he, hr, World.grownBy.refl _ _, hlt, rfl⟩
theorem ListInv.done (h : ListInv r one e g lo gn gc B w l0 j v wr) : SliceIs r true wr B wr.heap.size v (Pc.rep one j l0).1 := by
  obtain ⟨cells, S, h1, h2, h3, h4⟩ := h.own
  have hl := Pc.rep_len one j l0
  exact SliceOn.of_own (base := B) (e := e) (by rw [hl]; exact h1) (Rep.all_widen (fun b hb => h3 b hb) h2) (fun b hb => h1.lt b hb)
theorem ListInv.next (h : ListInv r one e g lo gn gc B w l0 j v wr) (hs : Step g lo wr w1 (one (Pc.rep one j l0).2).2) (hcs : r.is true w1 (rng wr.heap.size w1.heap.size) cs (one (Pc.rep one j l0).2).1) :
    ∃ cells, w1.ownsRow B e r.size v j cells ∧ B ≤ w1.heap.size ∧ (∀ v' w2, w2.ownsRow B e r.size v' (j + 1) (cells ++ cs) → w1.grownBy w2 v.ownBlock → Below B w1 w2 → (v'.ownBlock = v.ownBlock ∨ v'.ownBlock = some (w1.heap.size + 1)) → ListInv r one e g lo gn gc B w l0 (j + 1) v' w2) := by
  obtain ⟨cells, S, h1, h2, h3, h4⟩ := h.own
  obtain ⟨hb1, hb2⟩ := h.base
  have hlt := h.env.lt
  have hltc := h.env.ltc
  have hsz : wr.heap.size ≤ w1.heap.size := hs.only.size
  have hB : B ≤ wr.heap.size := by rw [hb2]; exact h.only.size
  have own1 : w1.ownsRow B e r.size v j cells := h1.kept hs.only (by
    cases hv : v.ownBlock with
    | none => exact .inl rfl
    | some k => have := (h1.lt k hv).1; exact .inr (fun he => by injection he; omega))
  have all1 : r.all true w1 S cells (Pc.rep one j l0).1 := Rep.all_keep (fun b hb => hs.only.block b (h3 b hb).2 (fun he => by have := (h3 b hb).1; injection he; omega)) h2
  refine ⟨cells, own1, by omega, fun v' w2 ho hg hbl ha => ?_⟩
  have hnew : r.all true w2 (fun b => S b ∨ rng wr.heap.size w1.heap.size b) (cells ++ cs) (Pc.rep one (j + 1) l0).1 := by
    rw [Pc.rep_snoc]
    have k1 : ∀ b, (S b ∨ rng wr.heap.size w1.heap.size b) → w2.heap[b]? = w1.heap[b]? := by
      rintro b (hb | hb)
      · exact hg.block b (Nat.lt_of_lt_of_le (h3 b hb).2 hsz) (fun he => h4 b he.symm hb)
      · refine hg.block b hb.2 (fun he => ?_)
        have := (h1.lt b he.symm).2
        have := hb.1
        omega
    exact Rep.all_snoc (Rep.all_keep k1 (Rep.all_widen (fun b hb => .inl hb) all1)) (r.keep (r.widen hcs (fun b hb => .inr hb)) k1)
  refine ⟨⟨cells ++ cs, _, ho, hnew, ?_, ?_⟩, ?_, ?_, ?_, hb1, hb2⟩
  · rintro b (hb | hb)
    · exact ⟨(h3 b hb).1, Nat.lt_of_lt_of_le (h3 b hb).2 (Nat.le_trans hsz hg.size)⟩
    · exact ⟨by have := hb.1; omega, Nat.lt_of_lt_of_le hb.2 hg.size⟩
  · intro b hb hS
    rcases ha with ha | ha
    · rw [ha] at hb
      rcases hS with hS | hS
      · exact h4 b hb hS
      · have := (h1.lt b hb).2; have := hS.1; omega
    · rw [ha] at hb
      injection hb with hb
      subst hb
      rcases hS with hS | hS
      · have := (h3 _ hS).2; omega
      · have := hS.2; omega
  · have he1 := h.env.grown hs.only
    exact ⟨(hbl.block gn (by omega)).trans he1.n, (hbl.block gc (by omega)).trans he1.c, hlt, hltc⟩
  · rw [Pc.rep_snoc]
    exact hs.rdr.below hbl (by omega)
  · have h5 := grown_trans h.only hs.only
    exact ⟨hbl.os.trans h5.os, hbl.tape.trans h5.tape, hbl.output.trans h5.output, Nat.le_trans h5.size hbl.size, fun k hk hne => (hbl.block k (by omega)).trans (h5.block k hk hne)⟩
end


set_option maxRecDepth 100000 in
set_option maxHeartbeats 4000000 in
theorem lists_int (g gn gc lo : Nat) (l : List Int) (n : Int) (w : World) (he : Env g gn gc w) (hr : Rdr g lo w l) (hlt : gc < w.heap.size) (hn : n ≤ 1000) :
    Calls Try.prog 48 #[.int .i64 n, .func (.func 46) #[] #[.pointer (some ⟨g, 0, none⟩)]] w fun x w' => (∃ v, x = .returned v ∧ SliceIs Rep.int true w' w.heap.size w'.heap.size v (Pc.rep Pc.nx n.toNat l).1) ∧ Step g lo w w' (Pc.rep Pc.nx n.toNat l).2 := by
  have h0 := ListInv.start (r := Rep.int) (one := Pc.nx) (e := 3) he hr hlt
  clear he hr
  go_enter Try.func48, Try.ntmps48
  go_wp2_with fail
  go_loopg [5, 7] n.toNat (fun k v i wr => ∃ j : Nat, i = .int .i64 (j : Int) ∧ j ≤ n.toNat ∧ k = n.toNat - j ∧ ListInv Rep.int Pc.nx 3 g lo gn gc w.heap.size w l j v wr)
  case atStart => exact ⟨0, rfl, by omega, by omega, h0⟩
  case round =>
    clear h0
    obtain ⟨j, rfl, hj, hk, hi⟩ := hrel
    have HK := Lib.hid hk; clear hk
    by_cases hjn : (j : Int) < n
    · go_wp2_with fail
      refine (next_any g lo _ _ hi.rdr).mono ?_
      rintro e w1 ⟨rfl, hs⟩
      obtain ⟨xs, hown, hB, hnext⟩ := hi.next hs (cs := [.int .i64 (Pc.nx (Pc.rep Pc.nx j l).2).1]) rfl
      have HN := Lib.hid hnext; clear hnext
      go_wp2_with (at_builtin; refine wpList_appendB rfl (.tmp 9) (.tmp 12) 22 rfl w.heap.size 3 Try.infoInt Try.underlying22 rfl Rep.int.pos _ j xs rfl hown 1 1 _ [.int .i64 (Pc.nx (Pc.rep Pc.nx j l).2).1] rfl (by simp) rfl (by simp [Value.oneCell']) (by unfold maxLen; omega) (by omega) hB ?_; intro v2 w2 ho2 hg2 hb2 ha2)
      have hi2 := HN.out v2 w2 ho2 hg2 hb2 ha2
      go_roundg (n.toNat - (j + 1))
      case rel => exact ⟨j + 1, by simp, by omega, rfl, hi2⟩
      case measure => have := HK.out; omega
    · have hj2 : j = n.toNat := by omega
      subst hj2
      have HI := Lib.hid hi; clear hi
      go_wp2_with fail
      go_ret
      exact ⟨⟨_, rfl, HI.out.done⟩, HI.out.rdr, HI.out.only⟩

set_option maxRecDepth 100000 in
set_option maxHeartbeats 4000000 in
theorem lists_msg (g gn gc lo : Nat) (l : List Int) (n : Int) (w : World) (he : Env g gn gc w) (hr : Rdr g lo w l) (hlt : gc < w.heap.size) (hn : n ≤ 1000) :
    Calls Try.prog 51 #[.int .i64 n, .func (.func 52) #[] #[.pointer (some ⟨gn, 0, none⟩)]] w fun x w' => (∃ v, x = .returned v ∧ SliceIs Rep.msg true w' w.heap.size w'.heap.size v (Pc.rep Pc.rmsg n.toNat l).1) ∧ Step g lo w w' (Pc.rep Pc.rmsg n.toNat l).2 := by
  have h0 := ListInv.start (r := Rep.msg) (one := Pc.rmsg) (e := 47) he hr hlt
  clear he hr
  go_enter Try.func51, Try.ntmps51
  go_wp2_with fail
  go_loopg [5, 7] n.toNat (fun k v i wr => ∃ j : Nat, i = .int .i64 (j : Int) ∧ j ≤ n.toNat ∧ k = n.toNat - j ∧ ListInv Rep.msg Pc.rmsg 47 g lo gn gc w.heap.size w l j v wr)
  case atStart => exact ⟨0, rfl, by omega, by omega, h0⟩
  case round =>
    clear h0
    obtain ⟨j, rfl, hj, hk, hi⟩ := hrel
    have HK := Lib.hid hk; clear hk
    by_cases hjn : (j : Int) < n
    · go_wp2_with fail
      refine (rmsg_any g gn gc lo _ _ hi.env hi.rdr).mono ?_
      rintro e w1 ⟨rfl, hs⟩
      obtain ⟨xs, hown, hB, hnext⟩ := hi.next hs (cs := [.int .i64 (Pc.rmsg (Pc.rep Pc.rmsg j l).2).1.1, .int .i64 (Pc.rmsg (Pc.rep Pc.rmsg j l).2).1.2]) rfl
      have HN := Lib.hid hnext; clear hnext
      go_wp2_with (at_builtin; refine wpList_appendB rfl (.tmp 9) (.tmp 12) 45 rfl w.heap.size 47 Try.infoMsg Try.underlying45 rfl Rep.msg.pos _ j xs rfl hown 1 1 _ [.int .i64 (Pc.rmsg (Pc.rep Pc.rmsg j l).2).1.1, .int .i64 (Pc.rmsg (Pc.rep Pc.rmsg j l).2).1.2] rfl (by simp) rfl (by simp [Value.oneCell']) (by unfold maxLen; omega) (by omega) hB ?_; intro v2 w2 ho2 hg2 hb2 ha2)
      have hi2 := HN.out v2 w2 ho2 hg2 hb2 ha2
      go_roundg (n.toNat - (j + 1))
      case rel => exact ⟨j + 1, by simp, by omega, rfl, hi2⟩
      case measure => have := HK.out; omega
    · have hj2 : j = n.toNat := by omega
      subst hj2
      have HI := Lib.hid hi; clear hi
      go_wp2_with fail
      go_ret
      exact ⟨⟨_, rfl, HI.out.done⟩, HI.out.rdr, HI.out.only⟩

set_option maxRecDepth 100000 in
set_option maxHeartbeats 4000000 in
theorem rin_any (g gn gc lo : Nat) (l : List Int) (w : World) (he : Env g gn gc w) (hr : Rdr g lo w l) (hlt : gc < w.heap.size) : Calls Try.prog 50 #[.pointer (some ⟨gc, 0, none⟩), .pointer (some ⟨gn, 0, none⟩)] w
    fun x w' => (∃ v, x = .returned v ∧ SliceIs Rep.msg true w' w.heap.size w'.heap.size v (Pc.rin l).1) ∧ Step g lo w w' (Pc.rin l).2 := by
  have hmf : ∀ (fn : Fn) (first cap : Array Value) (w : World), (Instr.makeFunc fn first cap).run Try.prog w = .ok (.func fn first cap) w := fun _ _ _ _ => rfl
  have kc := cell_of_one he.c
  have hc5 : (Pc.cnt 500 l).1 ≤ 500 := by simp only [Pc.cnt]; omega
  go_enter Try.func50, Try.ntmps50
  go_wp2_with fail
  refine (count_any g gn gc lo l 500 _ he hr).mono ?_
  rintro e w1 ⟨rfl, hs⟩
  go_wp2_with fail
  refine (lists_msg g gn gc lo _ _ _ (he.grown hs.only) hs.rdr (Nat.lt_of_lt_of_le hlt hs.only.size) (by omega)).mono ?_
  rintro e w2 ⟨⟨v, rfl, hv⟩, hs2⟩
  go_wp2_with fail
  go_ret
  exact ⟨⟨_, rfl, hv.widen hs.only.size (Nat.le_refl _)⟩, hs2.rdr, grown_trans hs.only hs2.only⟩

/-- The reader and the two variables, at a world that has turned in the reader's block alone. -/
structure RE (g gn gc lo : Nat) (w0 w : World) (l : List Int) : Prop where
  env : Env g gn gc w
  rdr : Rdr g lo w l
  only : w0.grownBy w (some g)
theorem RE.step {g gn gc lo : Nat} {w0 w w' : World} {l l' : List Int} (h : RE g gn gc lo w0 w l) (hs : Step g lo w w' l') : RE g gn gc lo w0 w' l' := ⟨h.env.grown hs.only, hs.rdr, grown_trans h.only hs.only⟩
theorem RE.kn {g gn gc lo : Nat} {w0 w : World} {l : List Int} (h : RE g gn gc lo w0 w l) : w.cell? ⟨gn, 0, none⟩ = some (.func (.func 46) #[] #[.pointer (some ⟨g, 0, none⟩)]) := cell_of_one h.env.n
theorem RE.kc {g gn gc lo : Nat} {w0 w : World} {l : List Int} (h : RE g gn gc lo w0 w l) : w.cell? ⟨gc, 0, none⟩ = some (.func (.func 47) #[] #[.pointer (some ⟨gn, 0, none⟩)]) := cell_of_one h.env.c

set_option maxRecDepth 100000 in
set_option maxHeartbeats 4000000 in
theorem rout_any (g gn gc lo : Nat) (l : List Int) (w : World) (he : Env g gn gc w) (hr : Rdr g lo w l) (hlt : gc < w.heap.size) : Calls Try.prog 54 #[.pointer (some ⟨gc, 0, none⟩), .pointer (some ⟨gn, 0, none⟩)] w
    fun x w' => (∃ v, x = .returned v ∧ SliceIs Rep.int true w' w.heap.size w'.heap.size v (Pc.rout l).1) ∧ Step g lo w w' (Pc.rout l).2 := by
  have h0 : RE g gn gc lo w w.drew l := ⟨⟨he.n, he.c, he.lt, he.ltc⟩, hr.far (fun _ _ => rfl), ⟨rfl, rfl, rfl, Nat.le_refl _, fun _ _ _ => rfl⟩⟩
  have kn := h0.kn
  have kc := h0.kc
  have hc5 : (Pc.cnt 500 l).1 ≤ 500 := by simp only [Pc.cnt]; omega
  clear he hr
  go_enter Try.func54, Try.ntmps54
  go_wp2_with fail
  go_region_held3 (fun w' => w'.cell? ⟨gn, 0, none⟩ = some (.func (.func 46) #[] #[.pointer (some ⟨g, 0, none⟩)]) ∧ w'.cell? ⟨gc, 0, none⟩ = some (.func (.func 47) #[] #[.pointer (some ⟨gn, 0, none⟩)])) (first | (refine ⟨?_, ?_⟩ <;> assumption) | go_keep)
    (first | (go_at_call 47; refine (count_any g gn gc lo _ 500 _ h0.env h0.rdr).mono ?_; rintro e w1 ⟨rfl, hs⟩; have h1 := h0.step hs; have kn := h1.kn; have kc := h1.kc; have hlt1 := Nat.lt_of_lt_of_le hlt h1.only.size) | (go_at_call 48; refine (lists_int g gn gc lo _ _ _ h1.env h1.rdr hlt1 (by omega)).mono ?_; rintro e w2 ⟨⟨v, rfl, hv⟩, hs2⟩; have h2 := h1.step hs2; have kn := h2.kn; have kc := h2.kc))
  go_wp2_with fail
  go_ret
  exact ⟨⟨_, rfl, hv.widen h1.only.size (Nat.le_refl _)⟩, h2.rdr, h2.only⟩


set_option maxRecDepth 100000 in
set_option maxHeartbeats 4000000 in
theorem lists_in (g gn gc lo : Nat) (l : List Int) (n : Int) (w : World) (he : Env g gn gc w) (hr : Rdr g lo w l) (hlt : gc < w.heap.size) (hn : n ≤ 1000) :
    Calls Try.prog 49 #[.int .i64 n, .func (.func 50) #[] #[.pointer (some ⟨gc, 0, none⟩), .pointer (some ⟨gn, 0, none⟩)]] w fun x w' => (∃ v, x = .returned v ∧ SliceIs Rep.msg.slice true w' w.heap.size w'.heap.size v (Pc.rep Pc.rin n.toNat l).1) ∧ Step g lo w w' (Pc.rep Pc.rin n.toNat l).2 := by
  have h0 := ListInv.start (r := Rep.msg.slice) (one := Pc.rin) (e := 45) he hr hlt
  clear he hr
  go_enter Try.func49, Try.ntmps49
  go_wp2_with fail
  go_loopg [5, 7] n.toNat (fun k v i wr => ∃ j : Nat, i = .int .i64 (j : Int) ∧ j ≤ n.toNat ∧ k = n.toNat - j ∧ ListInv Rep.msg.slice Pc.rin 45 g lo gn gc w.heap.size w l j v wr)
  case atStart => exact ⟨0, rfl, by omega, by omega, h0⟩
  case round =>
    clear h0
    obtain ⟨j, rfl, hj, hk, hi⟩ := hrel
    have HK := Lib.hid hk; clear hk
    by_cases hjn : (j : Int) < n
    · go_wp2_with fail
      refine (rin_any g gn gc lo _ _ hi.env hi.rdr (Nat.lt_of_lt_of_le hlt hi.only.size)).mono ?_
      rintro e w1 ⟨⟨v1, rfl, hv1⟩, hs⟩
      obtain ⟨A1, c1, rfl, hl1, hm1, ha1⟩ := hv1
      obtain ⟨xs, hown, hB, hnext⟩ := hi.next hs (cs := [.slice A1 (Pc.rin (Pc.rep Pc.rin j l).2).1.length c1]) ⟨_, rfl, A1, c1, rfl, hl1, hm1, ha1⟩
      have HN := Lib.hid hnext; clear hnext
      go_wp2_with (at_builtin; refine wpList_appendB rfl (.tmp 9) (.tmp 12) 23 rfl w.heap.size 45 Try.infoMsgs Try.underlying23 rfl Rep.msg.slice.pos _ j xs rfl hown 1 1 _ [.slice A1 (Pc.rin (Pc.rep Pc.rin j l).2).1.length c1] rfl (by simp) rfl (by simp [Value.oneCell']) (by unfold maxLen; omega) (by omega) hB ?_; intro v2 w2 ho2 hg2 hb2 ha2)
      have hi2 := HN.out v2 w2 ho2 hg2 hb2 ha2
      go_roundg (n.toNat - (j + 1))
      case rel => exact ⟨j + 1, by simp, by omega, rfl, hi2⟩
      case measure => have := HK.out; omega
    · have hj2 : j = n.toNat := by omega
      subst hj2
      have HI := Lib.hid hi; clear hi
      go_wp2_with fail
      go_ret
      exact ⟨⟨_, rfl, HI.out.done⟩, HI.out.rdr, HI.out.only⟩

set_option maxRecDepth 100000 in
set_option maxHeartbeats 4000000 in
theorem lists_out (g gn gc lo : Nat) (l : List Int) (n : Int) (w : World) (he : Env g gn gc w) (hr : Rdr g lo w l) (hlt : gc < w.heap.size) (hn : n ≤ 1000) :
    Calls Try.prog 53 #[.int .i64 n, .func (.func 54) #[] #[.pointer (some ⟨gc, 0, none⟩), .pointer (some ⟨gn, 0, none⟩)]] w fun x w' => (∃ v, x = .returned v ∧ SliceIs Rep.int.slice true w' w.heap.size w'.heap.size v (Pc.rep Pc.rout n.toNat l).1) ∧ Step g lo w w' (Pc.rep Pc.rout n.toNat l).2 := by
  have h0 := ListInv.start (r := Rep.int.slice) (one := Pc.rout) (e := 22) he hr hlt
  clear he hr
  go_enter Try.func53, Try.ntmps53
  go_wp2_with fail
  go_loopg [5, 7] n.toNat (fun k v i wr => ∃ j : Nat, i = .int .i64 (j : Int) ∧ j ≤ n.toNat ∧ k = n.toNat - j ∧ ListInv Rep.int.slice Pc.rout 22 g lo gn gc w.heap.size w l j v wr)
  case atStart => exact ⟨0, rfl, by omega, by omega, h0⟩
  case round =>
    clear h0
    obtain ⟨j, rfl, hj, hk, hi⟩ := hrel
    have HK := Lib.hid hk; clear hk
    by_cases hjn : (j : Int) < n
    · go_wp2_with fail
      refine (rout_any g gn gc lo _ _ hi.env hi.rdr (Nat.lt_of_lt_of_le hlt hi.only.size)).mono ?_
      rintro e w1 ⟨⟨v1, rfl, hv1⟩, hs⟩
      obtain ⟨A1, c1, rfl, hl1, hm1, ha1⟩ := hv1
      obtain ⟨xs, hown, hB, hnext⟩ := hi.next hs (cs := [.slice A1 (Pc.rout (Pc.rep Pc.rout j l).2).1.length c1]) ⟨_, rfl, A1, c1, rfl, hl1, hm1, ha1⟩
      have HN := Lib.hid hnext; clear hnext
      go_wp2_with (at_builtin; refine wpList_appendB rfl (.tmp 9) (.tmp 12) 24 rfl w.heap.size 22 Try.infoInts Try.underlying24 rfl Rep.int.slice.pos _ j xs rfl hown 1 1 _ [.slice A1 (Pc.rout (Pc.rep Pc.rout j l).2).1.length c1] rfl (by simp) rfl (by simp [Value.oneCell']) (by unfold maxLen; omega) (by omega) hB ?_; intro v2 w2 ho2 hg2 hb2 ha2)
      have hi2 := HN.out v2 w2 ho2 hg2 hb2 ha2
      go_roundg (n.toNat - (j + 1))
      case rel => exact ⟨j + 1, by simp, by omega, rfl, hi2⟩
      case measure => have := HK.out; omega
    · have hj2 : j = n.toNat := by omega
      subst hj2
      have HI := Lib.hid hi; clear hi
      go_wp2_with fail
      go_ret
      exact ⟨⟨_, rfl, HI.out.done⟩, HI.out.rdr, HI.out.only⟩
end Go.Proofs.Ytdfgnmdofjhnkaa

/- piece.Decode -/
namespace Go.Proofs.Ytdfgnmdofjhnkaa
open Go.RowKit

/-- While a piece is read: its cells are block gp; the result's cells are block R. -/
structure DInv (g gn gc lo gp R : Nat) (w0 w : World) (l : List Int) (cs : Array Value) : Prop where
  re : RE g gn gc lo w0 w l
  p : w.heap[gp]? = some (.cells cs 26 (0, 0))
  res : w.heap[R]? = some (.cells #[.int .i64 0, .int .i64 0, .int .i64 0, .slice none 0 0, .slice none 0 0, .slice none 0 0] 26 (0, 0))
  hp : gc < gp
  hR : R < g

theorem i64s_ints (l : List Nat) : i64s l = ints (Pc.zs l) := by simp [i64s, ints, Pc.zs]

theorem grown_keep {w w' : World} {g b : Nat} (h : w.grownBy w' (some g)) (hb : b < w.heap.size) (hne : b ≠ g) : w'.heap[b]? = w.heap[b]? := h.block b hb (fun e => hne (by injection e))

theorem DInv.step {g gn gc lo gp R : Nat} {w0 w w' : World} {l l' : List Int} {cs : Array Value} (h : DInv g gn gc lo gp R w0 w l cs) (hs : Step g lo w w' l') : DInv g gn gc lo gp R w0 w' l' cs := by
  have := h.re.env.lt
  have := h.re.env.ltc
  have := h.hp
  have := h.hR
  exact ⟨h.re.step hs, grown_cell hs.only h.p (by omega), grown_cell hs.only h.res (by omega), h.hp, h.hR⟩
theorem DInv.set_ {g gn gc lo gp R : Nat} {w0 w : World} {l : List Int} {cs : Array Value} (h : DInv g gn gc lo gp R w0 w l cs) (hw0 : w0.heap.size ≤ gp) (i : Nat) (u : Value) : DInv g gn gc lo gp R w0 (w.setCell ⟨gp, i, none⟩ u) l (cs.setIfInBounds i u) := by
  have h1 := h.re.env.lt
  have h2 := h.re.env.ltc
  have h3 := h.hp
  have h4 := h.hR
  have far : ∀ b, b < gp → (w.setCell ⟨gp, i, none⟩ u).heap[b]? = w.heap[b]? := fun b hb => heap_setCell_other _ _ _ _ (by simp; omega)
  exact ⟨⟨⟨(far gn (by omega)).trans h.re.env.n, (far gc (by omega)).trans h.re.env.c, h1, h2⟩, h.re.rdr.far (fun b hb => far b (by omega)), grown_new h.re.only hw0 u⟩, blk_set h.p i u, (far R (by omega)).trans h.res, h3, h4⟩

theorem RE.kn' {g gn gc lo : Nat} {w0 w : World} {l : List Int} (h : RE g gn gc lo w0 w l) : w.heap[gn]? = some (.cells #[.func (.func 46) #[] #[.pointer (some ⟨g, 0, none⟩)]] 83 (0, 0)) := h.env.n

section
variable {g gn gc lo gp R : Nat} {w0 w : World} {l : List Int} {cs : Array Value}
theorem DInv.drew (h : DInv g gn gc lo gp R w0 w l cs) : DInv g gn gc lo gp R w0 w.drew l cs :=
  ⟨⟨⟨h.re.env.n, h.re.env.c, h.re.env.lt, h.re.env.ltc⟩, h.re.rdr.far (fun _ _ => rfl), grown_trans h.re.only ⟨rfl, rfl, rfl, Nat.le_refl _, fun _ _ _ => rfl⟩⟩, h.p, h.res, h.hp, h.hR⟩
theorem DInv.cell (h : DInv g gn gc lo gp R w0 w l cs) (i : Nat) : w.cell? ⟨gp, i, none⟩ = cs[i]? := blk_cell h.p i
theorem DInv.free (h : DInv g gn gc lo gp R w0 w l cs) (i : Nat) : w.frozen? ⟨gp, i, none⟩ = false := by simp [World.frozen?, h.p]
theorem DInv.lt (h : DInv g gn gc lo gp R w0 w l cs) : gc < w.heap.size := by have := lt_of_block h.p; have := h.hp; omega
theorem DInv.ltp (h : DInv g gn gc lo gp R w0 w l cs) : gp < w.heap.size := lt_of_block h.p
variable {a b c d e f : Value}
theorem DInv.set3 (h : DInv g gn gc lo gp R w0 w l #[a, b, c, d, e, f]) (hw0 : w0.heap.size ≤ gp) (u : Value) : DInv g gn gc lo gp R w0 (w.setCell ⟨gp, 3, none⟩ u) l #[a, b, c, u, e, f] := h.set_ hw0 3 u
theorem DInv.set4 (h : DInv g gn gc lo gp R w0 w l #[a, b, c, d, e, f]) (hw0 : w0.heap.size ≤ gp) (u : Value) : DInv g gn gc lo gp R w0 (w.setCell ⟨gp, 4, none⟩ u) l #[a, b, c, d, u, f] := h.set_ hw0 4 u
theorem DInv.set5 (h : DInv g gn gc lo gp R w0 w l #[a, b, c, d, e, f]) (hw0 : w0.heap.size ≤ gp) (u : Value) : DInv g gn gc lo gp R w0 (w.setCell ⟨gp, 5, none⟩ u) l #[a, b, c, d, e, u] := h.set_ hw0 5 u
end
theorem lists_sent (g gn gc lo : Nat) (l : List Int) (w : World) (he : Env g gn gc w) (hr : Rdr g lo w (Pc.cnt 5 l).2) (hlt : gc < w.heap.size) :
    Calls Try.prog 48 #[.int .i64 (Pc.cnt 5 l).1, .func (.func 46) #[] #[.pointer (some ⟨g, 0, none⟩)]] w fun x w' => (∃ v, x = .returned v ∧ SliceIs Rep.int true w' w.heap.size w'.heap.size v (Pc.rsent l).1) ∧ Step g lo w w' (Pc.rsent l).2 :=
  lists_int g gn gc lo _ _ w he hr hlt (by simp only [Pc.cnt]; omega)
theorem lists_ins (g gn gc lo : Nat) (l : List Int) (w : World) (he : Env g gn gc w) (hr : Rdr g lo w (Pc.cnt 5 l).2) (hlt : gc < w.heap.size) :
    Calls Try.prog 49 #[.int .i64 (Pc.cnt 5 l).1, .func (.func 50) #[] #[.pointer (some ⟨gc, 0, none⟩), .pointer (some ⟨gn, 0, none⟩)]] w fun x w' => (∃ v, x = .returned v ∧ SliceIs Rep.msg.slice true w' w.heap.size w'.heap.size v (Pc.rins l).1) ∧ Step g lo w w' (Pc.rins l).2 :=
  lists_in g gn gc lo _ _ w he hr hlt (by simp only [Pc.cnt]; omega)
theorem lists_outs (g gn gc lo : Nat) (l : List Int) (w : World) (he : Env g gn gc w) (hr : Rdr g lo w (Pc.cnt 5 l).2) (hlt : gc < w.heap.size) :
    Calls Try.prog 53 #[.int .i64 (Pc.cnt 5 l).1, .func (.func 54) #[] #[.pointer (some ⟨gc, 0, none⟩), .pointer (some ⟨gn, 0, none⟩)]] w fun x w' => (∃ v, x = .returned v ∧ SliceIs Rep.int.slice true w' w.heap.size w'.heap.size v (Pc.routs l).1) ∧ Step g lo w w' (Pc.routs l).2 :=
  lists_out g gn gc lo _ _ w he hr hlt (by simp only [Pc.cnt]; omega)

/-- Blocks above gp have not turned. -/
def Keeps (gp : Nat) (w w' : World) : Prop := w.heap.size ≤ w'.heap.size ∧ ∀ b, gp < b → b < w.heap.size → w'.heap[b]? = w.heap[b]?
theorem Keeps.trans {gp : Nat} {a b c : World} (h : Keeps gp a b) (h' : Keeps gp b c) : Keeps gp a c :=
  ⟨Nat.le_trans h.1 h'.1, fun k h1 h2 => (h'.2 k h1 (Nat.lt_of_lt_of_le h2 h.1)).trans (h.2 k h1 h2)⟩
theorem Keeps.step {g lo gp : Nat} {w w' : World} {l : List Int} (hs : Step g lo w w' l) (h : g < gp) : Keeps gp w w' := ⟨hs.only.size, fun b h1 h2 => grown_keep hs.only h2 (by omega)⟩
theorem Keeps.set_ (gp i : Nat) (w : World) (u : Value) : Keeps gp w (w.setCell ⟨gp, i, none⟩ u) := ⟨by simp [World.setCell], fun b h1 _ => heap_setCell_other _ _ _ _ (by simp; omega)⟩
theorem Keeps.set' {gp : Nat} {w w' : World} (h : Keeps gp w w') {p : Addr} (hp : p.block ≤ gp) (u : Value) : Keeps gp w (w'.setCell p u) :=
  ⟨by have := h.1; simpa [World.setCell] using this, fun b h1 h2 => (heap_setCell_other _ _ _ _ (by omega)).trans (h.2 b h1 h2)⟩
theorem below_only {w w' : World} (h : w.grownBy w' (some w.heap.size)) : Below w.heap.size w w' := ⟨h.os, h.tape, h.output, h.size, fun i hi => h.block i hi (fun e => by injection e; omega)⟩
section
variable {w : World} {R : Nat} {T : TypeId} {a b c d e f : Value}
theorem six_cells (h : w.heap[R]? = some (.cells #[a, b, c, d, e, f] T (0, 0))) : w.cell? ⟨R, 0, none⟩ = some a ∧ w.cell? ⟨R, 1, none⟩ = some b ∧ w.cell? ⟨R, 2, none⟩ = some c ∧ w.cell? ⟨R, 3, none⟩ = some d ∧ w.cell? ⟨R, 4, none⟩ = some e ∧ w.cell? ⟨R, 5, none⟩ = some f :=
  ⟨blk_cell h 0, blk_cell h 1, blk_cell h 2, blk_cell h 3, blk_cell h 4, blk_cell h 5⟩
theorem six_free (h : w.heap[R]? = some (.cells #[a, b, c, d, e, f] T (0, 0))) : w.frozen? ⟨R, 0, none⟩ = false ∧ w.frozen? ⟨R, 1, none⟩ = false ∧ w.frozen? ⟨R, 2, none⟩ = false ∧ w.frozen? ⟨R, 3, none⟩ = false ∧ w.frozen? ⟨R, 4, none⟩ = false ∧ w.frozen? ⟨R, 5, none⟩ = false := by
  have k : ∀ i, w.frozen? ⟨R, i, none⟩ = false := fun i => by simp [World.frozen?, h]
  exact ⟨k 0, k 1, k 2, k 3, k 4, k 5⟩
theorem six_set (h : w.heap[R]? = some (.cells #[a, b, c, d, e, f] T (0, 0))) (a' b' c' d' e' f' : Value) :
    ((((((w.setCell ⟨R, 0, none⟩ a').setCell ⟨R, 1, none⟩ b').setCell ⟨R, 2, none⟩ c').setCell ⟨R, 3, none⟩ d').setCell ⟨R, 4, none⟩ e').setCell ⟨R, 5, none⟩ f').heap[R]? = some (.cells #[a', b', c', d', e', f'] T (0, 0)) :=
  blk_set (blk_set (blk_set (blk_set (blk_set (blk_set h 0 a') 1 b') 2 c') 3 d') 4 e') 5 f'
theorem six_below {B : Nat} {w0 : World} (h : Below B w0 w) (hR : B ≤ R) (a' b' c' d' e' f' : Value) :
    Below B w0 ((((((w.setCell ⟨R, 0, none⟩ a').setCell ⟨R, 1, none⟩ b').setCell ⟨R, 2, none⟩ c').setCell ⟨R, 3, none⟩ d').setCell ⟨R, 4, none⟩ e').setCell ⟨R, 5, none⟩ f') :=
  (((((h.setCell hR _).setCell hR _).setCell hR _).setCell hR _).setCell hR _).setCell hR _
theorem six_keeps {gp : Nat} {w0 : World} (h : Keeps gp w0 w) (hR : R ≤ gp) (a' b' c' d' e' f' : Value) :
    Keeps gp w0 ((((((w.setCell ⟨R, 0, none⟩ a').setCell ⟨R, 1, none⟩ b').setCell ⟨R, 2, none⟩ c').setCell ⟨R, 3, none⟩ d').setCell ⟨R, 4, none⟩ e').setCell ⟨R, 5, none⟩ f') :=
  (((((h.set' hR _).set' hR _).set' hR _).set' hR _).set' hR _).set' hR _
end
theorem Keeps.below {gp : Nat} {w w' : World} (h : Below w.heap.size w w') : Keeps gp w w' := ⟨h.size, fun b _ h2 => h.block b h2⟩
theorem Keeps.slice {gp : Nat} {w w' : World} {α : Type} {r : Rep α} {fr : Bool} {lo hi : Nat} {v : Value} {xs : List α} (h : Keeps gp w w') (hs : SliceIs r fr w lo hi v xs) (hlo : gp < lo) (hhi : hi ≤ w.heap.size) : SliceIs r fr w' lo hi v xs :=
  hs.keep fun b h1 h2 => h.2 b (by omega) (by omega)

theorem grown_slice {α : Type} {r : Rep α} {fr : Bool} {w w' : World} {lo hi g : Nat} {v : Value} {xs : List α} (h : SliceIs r fr w lo hi v xs) (hg : w.grownBy w' (some g)) (hlo : g < lo) (hhi : hi ≤ w.heap.size) : SliceIs r fr w' lo hi v xs :=
  h.keep fun b h1 h2 => grown_keep hg (by omega) (by omega)
theorem set_slice {α : Type} {r : Rep α} {fr : Bool} {w : World} {lo hi : Nat} {v : Value} {xs : List α} (h : SliceIs r fr w lo hi v xs) {p : Addr} (hp : p.block < lo) (u : Value) : SliceIs r fr (w.setCell p u) lo hi v xs :=
  h.keep fun b h1 _ => heap_setCell_other _ _ _ _ (by omega)

/-- While a piece's first numbers are read: its block may be there already. -/
structure Inv6 (g gn gc lo R : Nat) (w0 : World) (P : Option Nat) (w : World) (l : List Int) : Prop where
  re : RE g gn gc lo w0 w l
  p : ∀ gp, P = some gp → w.heap[gp]? = some (.cells #[.int .i64 0, .int .i64 0, .int .i64 0, .slice none 0 0, .slice none 0 0, .slice none 0 0] 26 (0, 0)) ∧ gc < gp ∧ w0.heap.size ≤ gp
  res : w.heap[R]? = some (.cells #[.int .i64 0, .int .i64 0, .int .i64 0, .slice none 0 0, .slice none 0 0, .slice none 0 0] 26 (0, 0))
  hR : R < g
  hc : gc < w.heap.size
section
variable {g gn gc lo R : Nat} {w0 w : World} {P : Option Nat} {l : List Int}
theorem next6 (g gn gc lo R : Nat) (w0 : World) (P : Option Nat) (l : List Int) (w : World) (h : Inv6 g gn gc lo R w0 P w l) : Calls Try.prog 46 #[.pointer (some ⟨g, 0, none⟩)] w
    fun x w' => x = .returned (.int .i64 (Pc.nx l).1) ∧ Inv6 g gn gc lo R w0 P w' (Pc.nx l).2 := by
  refine (next_any g lo l w h.re.rdr).mono ?_
  rintro x w' ⟨h1, h2⟩
  have a := h.re.env.lt
  have b := h.re.env.ltc
  have c := h.hR
  exact ⟨h1, h.re.step h2, fun gp e => ⟨grown_cell h2.only (h.p gp e).1 (by have := (h.p gp e).2; omega), (h.p gp e).2⟩, grown_cell h2.only h.res (by omega), h.hR, Nat.lt_of_lt_of_le h.hc h2.only.size⟩
theorem Inv6.drew (h : Inv6 g gn gc lo R w0 P w l) : Inv6 g gn gc lo R w0 P w.drew l :=
  ⟨⟨⟨h.re.env.n, h.re.env.c, h.re.env.lt, h.re.env.ltc⟩, h.re.rdr.far (fun _ _ => rfl), grown_trans h.re.only ⟨rfl, rfl, rfl, Nat.le_refl _, fun _ _ _ => rfl⟩⟩, h.p, h.res, h.hR, h.hc⟩
theorem Inv6.alloc (h : Inv6 g gn gc lo R w0 none w l) : Inv6 g gn gc lo R w0 (some w.heap.size) (w.alloc (.cells #[.int .i64 0, .int .i64 0, .int .i64 0, .slice none 0 0, .slice none 0 0, .slice none 0 0] 26)) l := by
  have a := h.re.env.lt
  have b := h.re.env.ltc
  have c := h.hR
  have d := h.hc
  have hb : Below w.heap.size w (w.alloc (.cells #[.int .i64 0, .int .i64 0, .int .i64 0, .slice none 0 0, .slice none 0 0, .slice none 0 0] 26)) := (Below.refl _ _).alloc (Nat.le_refl _) _
  refine ⟨⟨⟨(hb.block gn (by omega)).trans h.re.env.n, (hb.block gc d).trans h.re.env.c, a, b⟩, h.re.rdr.below hb (by omega), grown_trans h.re.only (grown_of_below hb)⟩, ?_, (hb.block R (by omega)).trans h.res, c, by simp; omega⟩
  rintro gp e
  injection e with e
  subst e
  exact ⟨heap_alloc_new _ _, d, h.re.only.size⟩
theorem Inv6.cells (h : Inv6 g gn gc lo R w0 P w l) (gp : Nat) (e : P = some gp) : w.cell? ⟨gp, 0, none⟩ = some (.int .i64 0) ∧ w.cell? ⟨gp, 1, none⟩ = some (.int .i64 0) ∧ w.cell? ⟨gp, 2, none⟩ = some (.int .i64 0) ∧ w.cell? ⟨gp, 3, none⟩ = some (.slice none 0 0) ∧ w.cell? ⟨gp, 4, none⟩ = some (.slice none 0 0) ∧ w.cell? ⟨gp, 5, none⟩ = some (.slice none 0 0) ∧ w.frozen? ⟨gp, 0, none⟩ = false ∧ w.frozen? ⟨gp, 1, none⟩ = false ∧ w.frozen? ⟨gp, 2, none⟩ = false ∧ w.frozen? ⟨gp, 3, none⟩ = false ∧ w.frozen? ⟨gp, 4, none⟩ = false ∧ w.frozen? ⟨gp, 5, none⟩ = false := by
  have h1 := (h.p gp e).1
  have f : ∀ i, w.frozen? ⟨gp, i, none⟩ = false := fun i => by simp [World.frozen?, h1]
  exact ⟨blk_cell h1 0, blk_cell h1 1, blk_cell h1 2, blk_cell h1 3, blk_cell h1 4, blk_cell h1 5, f 0, f 1, f 2, f 3, f 4, f 5⟩
theorem Inv6.ne (h : Inv6 g gn gc lo R w0 P w l) (gp : Nat) (e : P = some gp) : gp ≠ gn ∧ gn ≠ gp := by
  have := h.re.env.ltc
  have := (h.p gp e).2.1
  omega
theorem Inv6.dinv (h : Inv6 g gn gc lo R w0 P w l) (gp : Nat) (e : P = some gp) : DInv g gn gc lo gp R w0 w l #[.int .i64 0, .int .i64 0, .int .i64 0, .slice none 0 0, .slice none 0 0, .slice none 0 0] := ⟨h.re, (h.p gp e).1, h.res, (h.p gp e).2.1, h.hR⟩
theorem Inv6.fin_old {gp : Nat} (h : Inv6 g gn gc lo R w0 (some gp) w l) (a b c : Int) : ∃ gp', Value.pointer (some ⟨gp, 0, none⟩) = Value.pointer (some ⟨gp', 0, none⟩) ∧ w0.heap.size ≤ gp' ∧
    DInv g gn gc lo gp' R w0 ((((((w.setCell ⟨gp, 0, none⟩ (.int .i64 a)).setCell ⟨gp, 1, none⟩ (.int .i64 b)).setCell ⟨gp, 2, none⟩ (.int .i64 c)).setCell ⟨gp, 3, none⟩ (.slice none 0 0)).setCell ⟨gp, 4, none⟩ (.slice none 0 0)).setCell ⟨gp, 5, none⟩ (.slice none 0 0)) l #[.int .i64 a, .int .i64 b, .int .i64 c, .slice none 0 0, .slice none 0 0, .slice none 0 0] := by
  have h0 := h.dinv gp rfl
  have h1 := (h.p gp rfl).2.2
  exact ⟨gp, rfl, h1, (((((h0.set_ h1 0 _).set_ h1 1 _).set_ h1 2 _).set_ h1 3 _).set_ h1 4 _).set_ h1 5 _⟩
theorem Inv6.fin_new (h : Inv6 g gn gc lo R w0 none w l) (a b c : Int) : ∃ gp', Value.pointer (some ⟨w.heap.size, 0, none⟩) = Value.pointer (some ⟨gp', 0, none⟩) ∧ w0.heap.size ≤ gp' ∧
    DInv g gn gc lo gp' R w0 (w.alloc (.cells #[.int .i64 a, .int .i64 b, .int .i64 c, .slice none 0 0, .slice none 0 0, .slice none 0 0] 26)) l #[.int .i64 a, .int .i64 b, .int .i64 c, .slice none 0 0, .slice none 0 0, .slice none 0 0] := by
  have a1 := h.re.env.lt
  have b1 := h.re.env.ltc
  have c1 := h.hR
  have d1 := h.hc
  have hb : Below w.heap.size w (w.alloc (.cells #[.int .i64 a, .int .i64 b, .int .i64 c, .slice none 0 0, .slice none 0 0, .slice none 0 0] 26)) := (Below.refl _ _).alloc (Nat.le_refl _) _
  exact ⟨_, rfl, h.re.only.size, ⟨⟨(hb.block gn (by omega)).trans h.re.env.n, (hb.block gc d1).trans h.re.env.c, a1, b1⟩, h.re.rdr.below hb (by omega), grown_trans h.re.only (grown_of_below hb)⟩, heap_alloc_new _ _, (hb.block R (by omega)).trans h.res, d1, c1⟩
end

set_option maxRecDepth 100000 in
set_option maxHeartbeats 8000000 in
theorem decode_ok (s : ByteArray) (l : List Nat) (w : World) (hs : s.size ≤ 1000000) (hl : W.all s.data.toList = .ok l) : Calls Try.prog 19 #[.string s] w
    fun x w' => (∃ v, x = .returned (.tuple #[v, .int .i64 (Pc.decE s.data.toList)]) ∧ PieceIs true w' w.heap.size w'.heap.size v (Pc.dec s.data.toList)) ∧ Below w.heap.size w w' := by
  have hmf : ∀ (fn : Fn) (first cap : Array Value) (w : World), (Instr.makeFunc fn first cap).run Try.prog w = .ok (.func fn first cap) w := fun _ _ _ _ => rfl
  have hA := fun w => all_any s w (by omega)
  rw [hl] at hA
  have HA := Lib.hid hA; clear hA
  have HL := Lib.hid hl; clear hl
  go_enter Try.func19, Try.ntmps19
  go_wp2_with fail
  refine (HA.out _).mono ?_
  rintro e w1 ⟨⟨v, rfl, hown⟩, hb1⟩
  have hres : w1.heap[w.heap.size]? = some (.cells #[.int .i64 0, .int .i64 0, .int .i64 0, .slice none 0 0, .slice none 0 0, .slice none 0 0] 26 (0, 0)) := (hb1.block _ (by simp)).trans (heap_alloc_new _ _)
  have hlt1 := lt_of_block hres
  have hv : SliceIs Rep.int false w1 w.heap.size w1.heap.size v (Pc.zs l) := by
    have h2 : w1.ownsRow (w.heap.size + 1) 3 1 v (Pc.zs l).length (ints (Pc.zs l)) := by
      rw [← i64s_ints]; simpa [Pc.zs] using hown
    exact (SliceIs.of_own (r := Rep.int) (fr := true) (lo := w.heap.size) h2 (ints_all _ _ _ _) (Nat.le_succ _) (Nat.le_refl _)).soft
  obtain ⟨Av, cv, hve, _⟩ := id hv
  clear hown
  subst hve
  have hRE : RE w1.heap.size (w1.heap.size + 1) (w1.heap.size + 1 + 1) w.heap.size w1 (((w1.alloc (.cells #[.slice Av (Pc.zs l).length cv] 22)).alloc (.cells #[.func (.func 46) #[] #[.pointer (some ⟨w1.heap.size, 0, none⟩)]] 83)).alloc (.cells #[.func (.func 47) #[] #[.pointer (some ⟨w1.heap.size + 1, 0, none⟩)]] 84)) (Pc.zs l) := by
    refine ⟨⟨?_, ?_, by omega, by omega⟩, ⟨.slice Av (Pc.zs l).length cv, ?_, ?_⟩, ?_⟩
    · rw [heap_alloc_old _ _ (by simp)]; have := heap_alloc_new (w1.alloc (.cells #[.slice Av (Pc.zs l).length cv] 22)) (.cells #[nextV w1.heap.size] 83); simpa [nextV] using this
    · have := heap_alloc_new ((w1.alloc (.cells #[.slice Av (Pc.zs l).length cv] 22)).alloc (.cells #[nextV w1.heap.size] 83)) (.cells #[.func (.func 47) #[] #[.pointer (some ⟨w1.heap.size + 1, 0, none⟩)]] 84); simpa [nextV] using this
    · rw [heap_alloc_old _ _ (by simp; omega), heap_alloc_old _ _ (by simp)]; exact heap_alloc_new _ _
    · exact hv.keep fun b _ hb => by rw [heap_alloc_old _ _ (by simp; omega), heap_alloc_old _ _ (by simp; omega), heap_alloc_old _ _ hb]
    · exact grown_of_below ((((Below.refl _ _).alloc (Nat.le_refl _) _).alloc (by simp) _).alloc (by simp; omega) _)
  have hres3 : (((w1.alloc (.cells #[.slice Av (Pc.zs l).length cv] 22)).alloc (.cells #[.func (.func 46) #[] #[.pointer (some ⟨w1.heap.size, 0, none⟩)]] 83)).alloc (.cells #[.func (.func 47) #[] #[.pointer (some ⟨w1.heap.size + 1, 0, none⟩)]] 84)).heap[w.heap.size]? = some (.cells #[.int .i64 0, .int .i64 0, .int .i64 0, .slice none 0 0, .slice none 0 0, .slice none 0 0] 26 (0, 0)) := by
    rw [heap_alloc_old _ _ (by simp; omega), heap_alloc_old _ _ (by simp; omega), heap_alloc_old _ _ hlt1]; exact hres
  have HRE := Lib.hid hRE; clear hRE
  have HRES := Lib.hid hres3; clear hres3 hres hv
  have HB1 := Lib.hid hb1; clear hb1
  go_upto_region 6 with fail
  have HI6 := Inv6.mk (P := none) HRE.out (fun _ e => by cases e) HRES.out hlt1 (by simp)
  clear HRE HRES
  generalize hW : ((w1.alloc (.cells #[.slice Av (Pc.zs l).length cv] 22)).alloc (.cells #[.func (.func 46) #[] #[.pointer (some ⟨w1.heap.size, 0, none⟩)]] 83)).alloc (.cells #[.func (.func 47) #[] #[.pointer (some ⟨w1.heap.size + 1, 0, none⟩)]] 84) = W at HI6 ⊢
  clear hW
  have HIW := HI6
  replace HI6 : Inv6 w1.heap.size (w1.heap.size + 1) (w1.heap.size + 1 + 1) w.heap.size w.heap.size w1 none W.drew (Pc.zs l) := HI6.drew
  have kn := HI6.re.kn
  have knW : W.cell? ⟨w1.heap.size + 1, 0, none⟩ = some (.func (.func 46) #[] #[.pointer (some ⟨w1.heap.size, 0, none⟩)]) := kn
  go_cut [8] (fun p wx => ∃ gp, p = .pointer (some ⟨gp, 0, none⟩) ∧ w1.heap.size ≤ gp ∧ DInv w1.heap.size (w1.heap.size + 1) (w1.heap.size + 1 + 1) w.heap.size gp w.heap.size w1 wx (Pc.nx (Pc.nx (Pc.nx (Pc.zs l)).2).2).2 #[.int .i64 (Pc.nx (Pc.zs l)).1, .int .i64 (Pc.nx (Pc.nx (Pc.zs l)).2).1, .int .i64 (Pc.nx (Pc.nx (Pc.nx (Pc.zs l)).2).2).1, .slice none 0 0, .slice none 0 0, .slice none 0 0])
  case first =>
    go_region_held3 (fun w' => w'.cell? ⟨w1.heap.size + 1, 0, none⟩ = some (.func (.func 46) #[] #[.pointer (some ⟨w1.heap.size, 0, none⟩)])) (first | with_reducible assumption | go_keep) (first | (go_at_call 46; refine (next6 w1.heap.size (w1.heap.size + 1) (w1.heap.size + 1 + 1) w.heap.size w.heap.size w1 _ _ _ (by first | with_reducible assumption | with_reducible exact Inv6.drew (Inv6.alloc HIW) | exact Inv6.alloc (by with_reducible assumption))).mono ?_; rintro e wa ⟨rfl, hi⟩; have kn := hi.re.kn; (try (obtain ⟨c0, c1, c2, c3, c4, c5, f0, f1, f2, f3, f4, f5⟩   := hi.cells _ rfl; have hne1 := (hi.ne _ rfl).1; have hne2 := (hi.ne _ rfl).2))))
    all_goals (go_wp2_with fail; go_meet; first | (have hf := hi.fin_new (Pc.nx (Pc.zs l)).1 (Pc.nx (Pc.nx (Pc.zs l)).2).1 (Pc.nx (Pc.nx (Pc.nx (Pc.zs l)).2).2).1; with_reducible exact hf) | (have hf := hi.fin_old (Pc.nx (Pc.zs l)).1 (Pc.nx (Pc.nx (Pc.zs l)).2).1 (Pc.nx (Pc.nx (Pc.nx (Pc.zs l)).2).2).1; with_reducible exact hf))
  case rest =>
    clear HIW HI6 kn knW
    obtain ⟨gp, rfl, hgp, hd0⟩ := hcut
    generalize hl3 : (Pc.nx (Pc.nx (Pc.nx (Pc.zs l)).2).2).2 = l3 at hd0
    generalize hn0 : (Pc.nx (Pc.zs l)).1 = n0 at hd0
    generalize hn1 : (Pc.nx (Pc.nx (Pc.zs l)).2).1 = n1 at hd0
    generalize hn2 : (Pc.nx (Pc.nx (Pc.nx (Pc.zs l)).2).2).1 = n2 at hd0
    have HL3 := Lib.hid hl3; have HN0 := Lib.hid hn0; have HN1 := Lib.hid hn1; have HN2 := Lib.hid hn2
    clear hl3 hn0 hn1 hn2
    have hd := hd0.drew
    have hgc := hd.hp
    have kn := hd.re.kn
    have kc := hd.re.kc
    have hne1 : gp ≠ w1.heap.size + 1 := by omega
    have hne2 : gp ≠ w1.heap.size + 1 + 1 := by omega
    have hne3 : w1.heap.size + 1 ≠ gp := by omega
    have hne4 : w1.heap.size + 1 + 1 ≠ gp := by omega
    clear hd0
    go_wp2_with fail
    go_region_held3 (fun w' => w'.cell? ⟨w1.heap.size + 1, 0, none⟩ = some (.func (.func 46) #[] #[.pointer (some ⟨w1.heap.size, 0, none⟩)]) ∧ w'.cell? ⟨w1.heap.size + 1 + 1, 0, none⟩ = some (.func (.func 47) #[] #[.pointer (some ⟨w1.heap.size + 1, 0, none⟩)])) (first | (refine ⟨?_, ?_⟩ <;> with_reducible assumption) | go_keep) (first | (go_at_call 47; refine (count_any w1.heap.size (w1.heap.size + 1) (w1.heap.size + 1 + 1) w.heap.size _ 5 _ hd.re.env hd.re.rdr).mono ?_; rintro e wb ⟨rfl, hs⟩; have hd1 := hd.step hs; have kn := hd1.re.kn; have kc := hd1.re.kc) | (go_at_call 48; refine (lists_sent w1.heap.size (w1.heap.size + 1) (w1.heap.size + 1 + 1) w.heap.size l3 _ hd1.re.env hd1.re.rdr hd1.lt).mono ?_; rintro e wd ⟨⟨v1, rfl, hv1⟩, hs2⟩; have hd2 := hd1.step hs2; have kn := hd2.re.kn; have kc := hd2.re.kc; have c3 := hd2.cell 3; have f3 := hd2.free 3; simp only [List.getElem?_toArray, List.getElem?_cons_zero, List.getElem?_cons_succ] at c3; have hp1 := hd1.ltp; have hv1' := hv1; obtain ⟨A1, k1, rfl, _⟩ := hv1'))
    have hd3 := hd2.set3 hgp (.slice A1 (Pc.rsent l3).1.length k1)
    have kp3 := Keeps.set_ gp 3 wd (.slice A1 (Pc.rsent l3).1.length k1)
    have hv3 := kp3.slice hv1 hp1 (Nat.le_refl _)
    clear hv1 hd hd1 c3 f3 hs hs2 kp3
    have kc := hd3.re.kc
    have kc2 := hd2.re.kc
    clear hd2
    generalize hl4 : (Pc.rsent l3).2 = l4 at hd3
    have HL4 := Lib.hid hl4; clear hl4
    go_wp2_with fail
    refine (count_any w1.heap.size (w1.heap.size + 1) (w1.heap.size + 1 + 1) w.heap.size l4 5 _ hd3.re.env hd3.re.rdr).mono ?_
    rintro e we ⟨rfl, hs3⟩
    have hd4 := hd3.step hs3
    have kp := Keeps.step hs3 (gp := gp) (by omega)
    have hs3z := hs3.only.size
    clear kc kc2 hs3
    go_wp2_with fail
    refine (lists_ins w1.heap.size (w1.heap.size + 1) (w1.heap.size + 1 + 1) w.heap.size l4 _ hd4.re.env hd4.re.rdr hd4.lt).mono ?_
    rintro e wf ⟨⟨v2, rfl, hv2⟩, hs4⟩
    have hd5 := hd4.step hs4
    replace kp := kp.trans (Keeps.step hs4 (by omega))
    have hp2 := hd4.ltp
    have c4 := hd5.cell 4
    have f4 := hd5.free 4
    simp only [List.getElem?_toArray, List.getElem?_cons_zero, List.getElem?_cons_succ] at c4
    have hv2' := hv2
    obtain ⟨A2, k2, rfl, _⟩ := hv2'
    have hd6 := hd5.set4 hgp (.slice A2 (Pc.rins l4).1.length k2)
    have kp4 := Keeps.set_ gp 4 wf (.slice A2 (Pc.rins l4).1.length k2)
    replace kp := kp.trans kp4
    have hv4 := kp4.slice hv2 hp2 (Nat.le_refl _)
    have kc := hd6.re.kc
    have kc2 := hd5.re.kc
    clear hv2 hd3 hd4 hd5 hs4 kp4
    generalize hl5 : (Pc.rins l4).2 = l5 at hd6
    have HL5 := Lib.hid hl5; clear hl5
    go_wp2_with fail
    refine (count_any w1.heap.size (w1.heap.size + 1) (w1.heap.size + 1 + 1) w.heap.size l5 5 _ hd6.re.env hd6.re.rdr).mono ?_
    rintro e wg ⟨rfl, hs5⟩
    have hd7 := hd6.step hs5
    have kp2 := Keeps.step hs5 (gp := gp) (by omega)
    have hs5z := hs5.only.size
    clear kc kc2 hs5
    go_wp2_with fail
    refine (lists_outs w1.heap.size (w1.heap.size + 1) (w1.heap.size + 1 + 1) w.heap.size l5 _ hd7.re.env hd7.re.rdr hd7.lt).mono ?_
    rintro e wh ⟨⟨v3, rfl, hv5⟩, hs6⟩
    have hd8 := hd7.step hs6
    replace kp2 := kp2.trans (Keeps.step hs6 (by omega))
    have hp3 := hd7.ltp
    obtain ⟨c0, c1, c2, c3, c4, c5⟩ := six_cells hd8.p
    obtain ⟨f0, f1, f2, f3, f4', f5⟩ := six_free hd8.p
    have hv5' := hv5
    obtain ⟨A3, k3, rfl, _⟩ := hv5'
    have hd9 := hd8.set5 hgp (.slice A3 (Pc.routs l5).1.length k3)
    have kp5 := Keeps.set_ gp 5 wh (.slice A3 (Pc.routs l5).1.length k3)
    replace kp2 := kp2.trans kp5
    have hv6 := kp5.slice hv5 hp3 (Nat.le_refl _)
    obtain ⟨d0, d1, d2, d3, d4, d5⟩ := six_cells hd9.p
    have hrd : Pc.rd (Pc.zs l) = ⟨n0, n1, n2, (Pc.rsent l3).1, (Pc.rins l4).1, (Pc.routs l5).1⟩ := by
      rw [← HL5.out, ← HL4.out, ← HL3.out, ← HN0.out, ← HN1.out, ← HN2.out]; rfl
    have hsz3 : (wd.setCell ⟨gp, 3, none⟩ (.slice A1 (Pc.rsent l3).1.length k1)).heap.size = wd.heap.size := by simp [World.setCell]
    have hsz4 : (wf.setCell ⟨gp, 4, none⟩ (.slice A2 (Pc.rins l4).1.length k2)).heap.size = wf.heap.size := by simp [World.setCell]
    have hv3z := (kp.trans kp2).slice hv3 hp1 (by omega)
    have hv4z := kp2.slice hv4 hp2 (by omega)
    have hww : w.heap.size < gp := by omega
    have hbz : Below w.heap.size w (wh.setCell ⟨gp, 5, none⟩ (.slice A3 (Pc.routs l5).1.length k3)) :=
      (((Below.refl _ _).alloc (Nat.le_refl _) _).trans (HB1.out.mono (by simp))).trans ((below_only hd9.re.only).mono (by omega))
    have hPz : PieceIs true (wh.setCell ⟨gp, 5, none⟩ (.slice A3 (Pc.routs l5).1.length k3)) (gp + 1) (wh.setCell ⟨gp, 5, none⟩ (.slice A3 (Pc.routs l5).1.length k3)).heap.size (.agg #[.int .i64 n0, .int .i64 n1, .int .i64 n2, .slice A1 (Pc.rsent l3).1.length k1, .slice A2 (Pc.rins l4).1.length k2, .slice A3 (Pc.routs l5).1.length k3]) ⟨n0, n1, n2, (Pc.rsent l3).1, (Pc.rins l4).1, (Pc.routs l5).1⟩ :=
      ⟨_, _, _, rfl, hv3z.widen (by omega) (Nat.le_trans (by omega) (kp.trans kp2).1), hv4z.widen (by omega) (Nat.le_trans (by omega) kp2.1), hv6.widen (by omega) kp5.1⟩
    have hE := fun w h => encode_any (.agg #[.int .i64 n0, .int .i64 n1, .int .i64 n2, .slice A1 (Pc.rsent l3).1.length k1, .slice A2 (Pc.rins l4).1.length k2, .slice A3 (Pc.routs l5).1.length k3]) ⟨n0, n1, n2, (Pc.rsent l3).1, (Pc.rins l4).1, (Pc.routs l5).1⟩ w h
    obtain ⟨PP, hPP⟩ : ∃ PP, PP = Pc.Piece.mk n0 n1 n2 (Pc.rsent l3).1 (Pc.rins l4).1 (Pc.routs l5).1 := ⟨_, rfl⟩
    rw [← hPP] at hE hPz hrd
    have hres9 := hd9.res
    have hPe := hPz.soft.widen (lo' := 0) (Nat.zero_le _) (Nat.le_refl _)
    have HE := Lib.hid hE; clear hE
    have HPZ := Lib.hid hPz; clear hPz
    have HPE := Lib.hid hPe; clear hPe
    have HRD := Lib.hid hrd; clear hrd hPP
    have HBZ := Lib.hid hbz; clear hbz
    have HRES := Lib.hid hres9; clear hres9
    clear kp kp2 kp5 hv3 hv3z hv4 hv4z hv5 hv6 hd6 hd7 hd8 hsz3 hsz4 hs3z hs5z HL3 HL4 HL5 HN0 HN1 HN2 hne1 hne2 hne3 hne4
    have hRz := hd9.res
    have hltR := lt_of_block hRz
    have hp9 := hd9.p
    have hltP := lt_of_block hp9
    have HP9 := Lib.hid hp9
    clear hd9 hRz hp9
    go_wp2_with fail
    clear c0 c1 c2 c3 c4 c5 f0 f1 f2 f3 f4' f5 d0 d1 d2 d3 d4 d5 f4
    refine (HE.out _ HPE.out).mono ?_
    rintro e wj ⟨rfl, hbj⟩
    have hPj := HPZ.out.below hbj (Nat.le_refl _)
    have hbw := HBZ.out.trans (hbj.mono (by omega))
    have hresj := (hbj.block _ hltR).trans HRES.out
    have hpj := (hbj.block _ hltP).trans HP9.out
    have HPB := Lib.hid hpj
    have hszj := hbj.size
    clear hpj HP9 hltP
    generalize hwz : wh.setCell ⟨gp, 5, none⟩ (.slice A3 (Pc.routs l5).1.length k3) = wz at hPj hszj
    clear hwz HPZ HPE HE HBZ HRES hltR hbj
    have HPJ := Lib.hid hPj; clear hPj
    have HBW := Lib.hid hbw; clear hbw
    have HRJ := Lib.hid hresj
    obtain ⟨c0, c1, c2, c3, c4, c5⟩ := six_cells hresj
    obtain ⟨f0, f1, f2, f3, f4, f5⟩ := six_free hresj
    clear hresj
    unfold Pc.enc Pc.err
    cases hr : Pc.right PP
    · have hno : Pc.isP s.data.toList l = false := by unfold Pc.isP; rw [HRD.out, hr]; rfl
      have HNO := Lib.hid (Pc.dec_no HL.out hno); clear hno hr
      go_wp2_with fail
      have r := six_set HRJ.out (.int .i64 0) (.int .i64 0) (.int .i64 0) (.slice none 0 0) (.slice none 0 0) (.slice none 0 0)
      obtain ⟨g0, g1, g2, g3, g4, g5⟩ := six_cells r
      refine bodyPost_ret (v := .tuple #[.agg #[.int .i64 0, .int .i64 0, .int .i64 0, .slice none 0 0, .slice none 0 0, .slice none 0 0], .int .i64 4]) (by simp [results, Try.results19, go_sem, g0, g1, g2, g3, g4, g5]) rfl ⟨⟨_, by rw [HNO.out.2], ?_⟩, six_below HBW.out (Nat.le_refl _) _ _ _ _ _ _⟩
      rw [HNO.out.1]
      exact ⟨_, _, _, rfl, SliceIs.none_, SliceIs.none_, SliceIs.none_⟩
    · rw [if_pos rfl, if_pos rfl]
      have hD : (ByteArray.mk (Go.Proofs.Ytdfgnmdofjhnkaa.W.puts (Pc.nums PP)).toArray).data.toList = Go.Proofs.Ytdfgnmdofjhnkaa.W.puts (Pc.nums PP) := rfl
      generalize hS : ByteArray.mk (Go.Proofs.Ytdfgnmdofjhnkaa.W.puts (Pc.nums PP)).toArray = S at hD
      by_cases hSs : S = s
      · subst hSs
        have hyes : Pc.isP S.data.toList l = true := by unfold Pc.isP; rw [HRD.out, hr, hD]; simp
        have HYES := Lib.hid (Pc.dec_yes HL.out hyes)
        have sb1 : (S.toList == S.toList) = true := by simp
        have sb2 : (S.toList != S.toList) = false := by simp
        obtain ⟨d0, d1, d2, d3, d4, d5⟩ := six_cells HPB.out
        clear hD hyes hS hr
        go_wp2_with fail
        have r := six_set HRJ.out (.int .i64 n0) (.int .i64 n1) (.int .i64 n2) (.slice A1 (Pc.rsent l3).1.length k1) (.slice A2 (Pc.rins l4).1.length k2) (.slice A3 (Pc.routs l5).1.length k3)
        obtain ⟨g0, g1, g2, g3, g4, g5⟩ := six_cells r
        refine bodyPost_ret (v := .tuple #[.agg #[.int .i64 n0, .int .i64 n1, .int .i64 n2, .slice A1 (Pc.rsent l3).1.length k1, .slice A2 (Pc.rins l4).1.length k2, .slice A3 (Pc.routs l5).1.length k3], .int .i64 0]) (by simp [results, Try.results19, go_sem, g0, g1, g2, g3, g4, g5]) rfl ⟨⟨_, by rw [HYES.out.2], ?_⟩, six_below HBW.out (Nat.le_refl _) _ _ _ _ _ _⟩
        rw [HYES.out.1, HRD.out]
        have hk := six_keeps (w := wj) (w0 := wj) (gp := gp) (R := w.heap.size) ⟨Nat.le_refl _, fun _ _ _ => rfl⟩ (by omega) (.int .i64 n0) (.int .i64 n1) (.int .i64 n2) (.slice A1 (Pc.rsent l3).1.length k1) (.slice A2 (Pc.rins l4).1.length k2) (.slice A3 (Pc.routs l5).1.length k3)
        exact (HPJ.out.keep fun b h1 h2 => hk.2 b (by omega) (by omega)).widen (by omega) (Nat.le_trans hszj hk.1)
      · have hno : Pc.isP s.data.toList l = false := by
          unfold Pc.isP
          rw [HRD.out, hr, Bool.true_and]
          apply decide_eq_false
          intro he
          apply hSs
          rw [← hS, he]
        have HNO := Lib.hid (Pc.dec_no HL.out hno)
        have sb1 : (S.toList == s.toList) = false := by
          rw [beq_eq_false_iff_ne]
          intro he
          rw [ByteArray.toList_eq, ByteArray.toList_eq] at he
          exact hSs (ByteArray.ext (Array.toList_inj.1 he))
        have sb2 : (S.toList != s.toList) = true := by simp [bne, sb1]
        clear hD hS hr hno hSs
        go_wp2_with fail
        have r := six_set HRJ.out (.int .i64 0) (.int .i64 0) (.int .i64 0) (.slice none 0 0) (.slice none 0 0) (.slice none 0 0)
        obtain ⟨g0, g1, g2, g3, g4, g5⟩ := six_cells r
        refine bodyPost_ret (v := .tuple #[.agg #[.int .i64 0, .int .i64 0, .int .i64 0, .slice none 0 0, .slice none 0 0, .slice none 0 0], .int .i64 4]) (by simp [results, Try.results19, go_sem, g0, g1, g2, g3, g4, g5]) rfl ⟨⟨_, by rw [HNO.out.2], ?_⟩, six_below HBW.out (Nat.le_refl _) _ _ _ _ _ _⟩
        rw [HNO.out.1]
        exact ⟨_, _, _, rfl, SliceIs.none_, SliceIs.none_, SliceIs.none_⟩

set_option maxRecDepth 100000 in
set_option maxHeartbeats 4000000 in
theorem decode_bad (s : ByteArray) (k : Nat) (w : World) (hs : s.size ≤ 1000000) (hl : W.all s.data.toList = .bad k) : Calls Try.prog 19 #[.string s] w
    fun x w' => (∃ v, x = .returned (.tuple #[v, .int .i64 (Pc.decE s.data.toList)]) ∧ PieceIs true w' w.heap.size w'.heap.size v (Pc.dec s.data.toList)) ∧ Below w.heap.size w w' := by
  have hA := fun w => all_any s w (by omega)
  rw [hl] at hA
  have HA := Lib.hid hA; clear hA
  have hk := Pc.all_err _ _ _ (Nat.le_refl _) hl
  have HD := Lib.hid (Pc.dec_bad hl); clear hl
  have hk1 : ((k : Int) == 0) = false := beq_eq_false_iff_ne.2 (by omega)
  have hk2 : ((k : Int) != 0) = true := by simp [bne, hk1]
  go_enter Try.func19, Try.ntmps19
  go_wp2_with fail
  refine (HA.out _).mono ?_
  rintro e w1 ⟨rfl, hb1⟩
  have hres : w1.heap[w.heap.size]? = some (.cells #[.int .i64 0, .int .i64 0, .int .i64 0, .slice none 0 0, .slice none 0 0, .slice none 0 0] 26 (0, 0)) := (hb1.block _ (by simp)).trans (heap_alloc_new _ _)
  have hbw : Below w.heap.size w w1 := ((Below.refl _ _).alloc (Nat.le_refl _) _).trans (hb1.mono (by simp))
  have hlt := lt_of_block hres
  have HRJ := Lib.hid hres
  obtain ⟨c0, c1, c2, c3, c4, c5⟩ := six_cells hres
  obtain ⟨f0, f1, f2, f3, f4, f5⟩ := six_free hres
  clear hres
  go_wp2_with fail
  have r0 := six_set HRJ.out (.int .i64 0) (.int .i64 0) (.int .i64 0) (.slice none 0 0) (.slice none 0 0) (.slice none 0 0)
  have hb6 := six_below hbw (R := w.heap.size) (Nat.le_refl _) (.int .i64 0) (.int .i64 0) (.int .i64 0) (.slice none 0 0) (.slice none 0 0) (.slice none 0 0)
  have r := (heap_alloc_old _ (.cells #[.slice none 0 0] 22) (lt_of_block r0)).trans r0
  obtain ⟨g0, g1, g2, g3, g4, g5⟩ := six_cells r
  refine bodyPost_ret (v := .tuple #[.agg #[.int .i64 0, .int .i64 0, .int .i64 0, .slice none 0 0, .slice none 0 0, .slice none 0 0], .int .i64 4]) (by simp [results, Try.results19, go_sem, g0, g1, g2, g3, g4, g5]) rfl ⟨⟨_, by rw [HD.out.2], ?_⟩, hb6.alloc hb6.size _⟩
  rw [HD.out.1]
  exact ⟨_, _, _, rfl, SliceIs.none_, SliceIs.none_, SliceIs.none_⟩

theorem decode_any (s : ByteArray) (w : World) (hs : s.size ≤ 1000000) : Calls Try.prog 19 #[.string s] w
    fun x w' => (∃ v, x = .returned (.tuple #[v, .int .i64 (Pc.decE s.data.toList)]) ∧ PieceIs true w' w.heap.size w'.heap.size v (Pc.dec s.data.toList)) ∧ Below w.heap.size w w' := by
  cases hl : W.all s.data.toList with
  | bad k => exact decode_bad s k w hs hl
  | ok l => exact decode_ok s l w hs hl
end Go.Proofs.Ytdfgnmdofjhnkaa
