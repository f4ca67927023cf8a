/- piece.lists, as Decode uses it. -/
import Derived.Test.YtdfgnmdofjhnkaaPJ
namespace Go.Proofs.Ytdfgnmdofjhnkaa
open Go.RowKit

theorem Try.infoMsg : (Try.prog.info? 47).map (fun i => (i.zero, i.size, i.bytes)) = some (some (.agg #[.int .i64 0, .int .i64 0]), 2, 16) := by kernel_rfl
theorem Try.infoInts : (Try.prog.info? 22).map (fun i => (i.zero, i.size, i.bytes)) = some (some (.slice none 0 0), 1, 24) := by kernel_rfl
theorem Try.infoMsgs : (Try.prog.info? 45).map (fun i => (i.zero, i.size, i.bytes)) = some (some (.slice none 0 0), 1, 24) := by kernel_rfl

structure ListInv {α : Type} (r : Rep α) (one : List Int → α × List Int) (e : TypeId) (g lo gn gc B : Nat) (w : World) (l0 : List Int) (j : Nat) (v : Value) (wr : World) : Prop where
  own : ∃ cells S, wr.ownsRow B e r.size v j cells ∧ r.all true wr S cells (Pc.rep one j l0).1 ∧ (∀ b, S b → B ≤ b ∧ b < wr.heap.size) ∧ (∀ b, v.ownBlock = some b → ¬ S b)
  env : Env g gn gc wr
  rdr : Rdr g lo wr (Pc.rep one j l0).2
  only : w.grownBy wr (some g)
  base : gc < B ∧ B = w.heap.size

section
variable {α : Type} {r : Rep α} {one : List Int → α × List Int} {e : TypeId} {g lo gn gc B : Nat} {w wr w1 : World} {l0 : List Int} {j : Nat} {v : Value} {cs : List Value}
theorem ListInv.start (he : Env g gn gc w) (hr : Rdr g lo w l0) (hlt : gc < w.heap.size) : ListInv r one e g lo gn gc w.heap.size w l0 0 (.slice none 0 0) w :=
  ⟨⟨[], fun _ => False, World.ownsRow_nil _ _ _ _, rfl, fun _ h => h.elim, fun _ h => by simp [Value.ownBlock] at h⟩, he, hr, World.grownBy.refl _ _, hlt, rfl⟩
theorem ListInv.done (h : ListInv r one e g lo gn gc B w l0 j v wr) : SliceIs r true wr B wr.heap.size v (Pc.rep one j l0).1 := by
  obtain ⟨cells, S, h1, h2, h3, h4⟩ := h.own
  have hl := Pc.rep_len one j l0
  exact SliceOn.of_own (base := B) (e := e) (by rw [hl]; exact h1) (Rep.all_widen (fun b hb => h3 b hb) h2) (fun b hb => h1.lt b hb)
theorem ListInv.next (h : ListInv r one e g lo gn gc B w l0 j v wr) (hs : Step g lo wr w1 (one (Pc.rep one j l0).2).2) (hcs : r.is true w1 (rng wr.heap.size w1.heap.size) cs (one (Pc.rep one j l0).2).1) :
    ∃ cells, w1.ownsRow B e r.size v j cells ∧ B ≤ w1.heap.size ∧ (∀ v' w2, w2.ownsRow B e r.size v' (j + 1) (cells ++ cs) → w1.grownBy w2 v.ownBlock → Below B w1 w2 → (v'.ownBlock = v.ownBlock ∨ v'.ownBlock = some (w1.heap.size + 1)) → ListInv r one e g lo gn gc B w l0 (j + 1) v' w2) := by
  obtain ⟨cells, S, h1, h2, h3, h4⟩ := h.own
  obtain ⟨hb1, hb2⟩ := h.base
  have hlt := h.env.lt
  have hltc := h.env.ltc
  have hsz : wr.heap.size ≤ w1.heap.size := hs.only.size
  have hB : B ≤ wr.heap.size := by rw [hb2]; exact h.only.size
  have own1 : w1.ownsRow B e r.size v j cells := h1.kept hs.only (by
    cases hv : v.ownBlock with
    | none => exact .inl rfl
    | some k => have := (h1.lt k hv).1; exact .inr (fun he => by injection he; omega))
  have all1 : r.all true w1 S cells (Pc.rep one j l0).1 := Rep.all_keep (fun b hb => hs.only.block b (h3 b hb).2 (fun he => by have := (h3 b hb).1; injection he; omega)) h2
  refine ⟨cells, own1, by omega, fun v' w2 ho hg hbl ha => ?_⟩
  have hnew : r.all true w2 (fun b => S b ∨ rng wr.heap.size w1.heap.size b) (cells ++ cs) (Pc.rep one (j + 1) l0).1 := by
    rw [Pc.rep_snoc]
    have k1 : ∀ b, (S b ∨ rng wr.heap.size w1.heap.size b) → w2.heap[b]? = w1.heap[b]? := by
      rintro b (hb | hb)
      · exact hg.block b (Nat.lt_of_lt_of_le (h3 b hb).2 hsz) (fun he => h4 b he.symm hb)
      · refine hg.block b hb.2 (fun he => ?_)
        have := (h1.lt b he.symm).2
        have := hb.1
        omega
    exact Rep.all_snoc (Rep.all_keep k1 (Rep.all_widen (fun b hb => .inl hb) all1)) (r.keep (r.widen hcs (fun b hb => .inr hb)) k1)
  refine ⟨⟨cells ++ cs, _, ho, hnew, ?_, ?_⟩, ?_, ?_, ?_, hb1, hb2⟩
  · rintro b (hb | hb)
    · exact ⟨(h3 b hb).1, Nat.lt_of_lt_of_le (h3 b hb).2 (Nat.le_trans hsz hg.size)⟩
    · exact ⟨by have := hb.1; omega, Nat.lt_of_lt_of_le hb.2 hg.size⟩
  · intro b hb hS
    rcases ha with ha | ha
    · rw [ha] at hb
      rcases hS with hS | hS
      · exact h4 b hb hS
      · have := (h1.lt b hb).2; have := hS.1; omega
    · rw [ha] at hb
      injection hb with hb
      subst hb
      rcases hS with hS | hS
      · have := (h3 _ hS).2; omega
      · have := hS.2; omega
  · have he1 := h.env.grown hs.only
    exact ⟨(hbl.block gn (by omega)).trans he1.n, (hbl.block gc (by omega)).trans he1.c, hlt, hltc⟩
  · rw [Pc.rep_snoc]
    exact hs.rdr.below hbl (by omega)
  · have h5 := grown_trans h.only hs.only
    exact ⟨hbl.os.trans h5.os, hbl.tape.trans h5.tape, hbl.output.trans h5.output, Nat.le_trans h5.size hbl.size, fun k hk hne => (hbl.block k (by omega)).trans (h5.block k hk hne)⟩
end


set_option maxRecDepth 100000 in
set_option maxHeartbeats 4000000 in
theorem lists_int (g gn gc lo : Nat) (l : List Int) (n : Int) (w : World) (he : Env g gn gc w) (hr : Rdr g lo w l) (hlt : gc < w.heap.size) (hn : n ≤ 1000) :
    Calls Try.prog 48 #[.int .i64 n, .func (.func 46) #[] #[.pointer (some ⟨g, 0, none⟩)]] w fun x w' => (∃ v, x = .returned v ∧ SliceIs Rep.int true w' w.heap.size w'.heap.size v (Pc.rep Pc.nx n.toNat l).1) ∧ Step g lo w w' (Pc.rep Pc.nx n.toNat l).2 := by
  have h0 := ListInv.start (r := Rep.int) (one := Pc.nx) (e := 3) he hr hlt
  clear he hr
  go_enter Try.func48, Try.ntmps48
  go_wp2_with fail
  go_loopg [5, 7] n.toNat (fun k v i wr => ∃ j : Nat, i = .int .i64 (j : Int) ∧ j ≤ n.toNat ∧ k = n.toNat - j ∧ ListInv Rep.int Pc.nx 3 g lo gn gc w.heap.size w l j v wr)
  case atStart => exact ⟨0, rfl, by omega, by omega, h0⟩
  case round =>
    clear h0
    obtain ⟨j, rfl, hj, hk, hi⟩ := hrel
    have HK := Lib.hid hk; clear hk
    by_cases hjn : (j : Int) < n
    · go_wp2_with fail
      refine (next_any g lo _ _ hi.rdr).mono ?_
      rintro e w1 ⟨rfl, hs⟩
      obtain ⟨xs, hown, hB, hnext⟩ := hi.next hs (cs := [.int .i64 (Pc.nx (Pc.rep Pc.nx j l).2).1]) rfl
      have HN := Lib.hid hnext; clear hnext
      go_wp2_with (at_builtin; refine wpList_appendB rfl (.tmp 9) (.tmp 12) 22 rfl w.heap.size 3 Try.infoInt Try.underlying22 rfl Rep.int.pos _ j xs rfl hown 1 1 _ [.int .i64 (Pc.nx (Pc.rep Pc.nx j l).2).1] rfl (by simp) rfl (by simp [Value.oneCell']) (by unfold maxLen; omega) (by omega) hB ?_; intro v2 w2 ho2 hg2 hb2 ha2)
      have hi2 := HN.out v2 w2 ho2 hg2 hb2 ha2
      go_roundg (n.toNat - (j + 1))
      case rel => exact ⟨j + 1, by simp, by omega, rfl, hi2⟩
      case measure => have := HK.out; omega
    · have hj2 : j = n.toNat := by omega
      subst hj2
      have HI := Lib.hid hi; clear hi
      go_wp2_with fail
      go_ret
      exact ⟨⟨_, rfl, HI.out.done⟩, HI.out.rdr, HI.out.only⟩

set_option maxRecDepth 100000 in
set_option maxHeartbeats 4000000 in
theorem lists_msg (g gn gc lo : Nat) (l : List Int) (n : Int) (w : World) (he : Env g gn gc w) (hr : Rdr g lo w l) (hlt : gc < w.heap.size) (hn : n ≤ 1000) :
    Calls Try.prog 51 #[.int .i64 n, .func (.func 52) #[] #[.pointer (some ⟨gn, 0, none⟩)]] w fun x w' => (∃ v, x = .returned v ∧ SliceIs Rep.msg true w' w.heap.size w'.heap.size v (Pc.rep Pc.rmsg n.toNat l).1) ∧ Step g lo w w' (Pc.rep Pc.rmsg n.toNat l).2 := by
  have h0 := ListInv.start (r := Rep.msg) (one := Pc.rmsg) (e := 47) he hr hlt
  clear he hr
  go_enter Try.func51, Try.ntmps51
  go_wp2_with fail
  go_loopg [5, 7] n.toNat (fun k v i wr => ∃ j : Nat, i = .int .i64 (j : Int) ∧ j ≤ n.toNat ∧ k = n.toNat - j ∧ ListInv Rep.msg Pc.rmsg 47 g lo gn gc w.heap.size w l j v wr)
  case atStart => exact ⟨0, rfl, by omega, by omega, h0⟩
  case round =>
    clear h0
    obtain ⟨j, rfl, hj, hk, hi⟩ := hrel
    have HK := Lib.hid hk; clear hk
    by_cases hjn : (j : Int) < n
    · go_wp2_with fail
      refine (rmsg_any g gn gc lo _ _ hi.env hi.rdr).mono ?_
      rintro e w1 ⟨rfl, hs⟩
      obtain ⟨xs, hown, hB, hnext⟩ := hi.next hs (cs := [.int .i64 (Pc.rmsg (Pc.rep Pc.rmsg j l).2).1.1, .int .i64 (Pc.rmsg (Pc.rep Pc.rmsg j l).2).1.2]) rfl
      have HN := Lib.hid hnext; clear hnext
      go_wp2_with (at_builtin; refine wpList_appendB rfl (.tmp 9) (.tmp 12) 45 rfl w.heap.size 47 Try.infoMsg Try.underlying45 rfl Rep.msg.pos _ j xs rfl hown 1 1 _ [.int .i64 (Pc.rmsg (Pc.rep Pc.rmsg j l).2).1.1, .int .i64 (Pc.rmsg (Pc.rep Pc.rmsg j l).2).1.2] rfl (by simp) rfl (by simp [Value.oneCell']) (by unfold maxLen; omega) (by omega) hB ?_; intro v2 w2 ho2 hg2 hb2 ha2)
      have hi2 := HN.out v2 w2 ho2 hg2 hb2 ha2
      go_roundg (n.toNat - (j + 1))
      case rel => exact ⟨j + 1, by simp, by omega, rfl, hi2⟩
      case measure => have := HK.out; omega
    · have hj2 : j = n.toNat := by omega
      subst hj2
      have HI := Lib.hid hi; clear hi
      go_wp2_with fail
      go_ret
      exact ⟨⟨_, rfl, HI.out.done⟩, HI.out.rdr, HI.out.only⟩

set_option maxRecDepth 100000 in
set_option maxHeartbeats 4000000 in
theorem rin_any (g gn gc lo : Nat) (l : List Int) (w : World) (he : Env g gn gc w) (hr : Rdr g lo w l) (hlt : gc < w.heap.size) : Calls Try.prog 50 #[.pointer (some ⟨gc, 0, none⟩), .pointer (some ⟨gn, 0, none⟩)] w
    fun x w' => (∃ v, x = .returned v ∧ SliceIs Rep.msg true w' w.heap.size w'.heap.size v (Pc.rin l).1) ∧ Step g lo w w' (Pc.rin l).2 := by
  have hmf : ∀ (fn : Fn) (first cap : Array Value) (w : World), (Instr.makeFunc fn first cap).run Try.prog w = .ok (.func fn first cap) w := fun _ _ _ _ => rfl
  have kc := cell_of_one he.c
  have hc5 : (Pc.cnt 500 l).1 ≤ 500 := by simp only [Pc.cnt]; omega
  go_enter Try.func50, Try.ntmps50
  go_wp2_with fail
  refine (count_any g gn gc lo l 500 _ he hr).mono ?_
  rintro e w1 ⟨rfl, hs⟩
  go_wp2_with fail
  refine (lists_msg g gn gc lo _ _ _ (he.grown hs.only) hs.rdr (Nat.lt_of_lt_of_le hlt hs.only.size) (by omega)).mono ?_
  rintro e w2 ⟨⟨v, rfl, hv⟩, hs2⟩
  go_wp2_with fail
  go_ret
  exact ⟨⟨_, rfl, hv.widen hs.only.size (Nat.le_refl _)⟩, hs2.rdr, grown_trans hs.only hs2.only⟩

/-- The reader and the two variables, at a world that has turned in the reader's block alone. -/
structure RE (g gn gc lo : Nat) (w0 w : World) (l : List Int) : Prop where
  env : Env g gn gc w
  rdr : Rdr g lo w l
  only : w0.grownBy w (some g)
theorem RE.step {g gn gc lo : Nat} {w0 w w' : World} {l l' : List Int} (h : RE g gn gc lo w0 w l) (hs : Step g lo w w' l') : RE g gn gc lo w0 w' l' := ⟨h.env.grown hs.only, hs.rdr, grown_trans h.only hs.only⟩
theorem RE.kn {g gn gc lo : Nat} {w0 w : World} {l : List Int} (h : RE g gn gc lo w0 w l) : w.cell? ⟨gn, 0, none⟩ = some (.func (.func 46) #[] #[.pointer (some ⟨g, 0, none⟩)]) := cell_of_one h.env.n
theorem RE.kc {g gn gc lo : Nat} {w0 w : World} {l : List Int} (h : RE g gn gc lo w0 w l) : w.cell? ⟨gc, 0, none⟩ = some (.func (.func 47) #[] #[.pointer (some ⟨gn, 0, none⟩)]) := cell_of_one h.env.c

set_option maxRecDepth 100000 in
set_option maxHeartbeats 4000000 in
theorem rout_any (g gn gc lo : Nat) (l : List Int) (w : World) (he : Env g gn gc w) (hr : Rdr g lo w l) (hlt : gc < w.heap.size) : Calls Try.prog 54 #[.pointer (some ⟨gc, 0, none⟩), .pointer (some ⟨gn, 0, none⟩)] w
    fun x w' => (∃ v, x = .returned v ∧ SliceIs Rep.int true w' w.heap.size w'.heap.size v (Pc.rout l).1) ∧ Step g lo w w' (Pc.rout l).2 := by
  have h0 : RE g gn gc lo w w.drew l := ⟨⟨he.n, he.c, he.lt, he.ltc⟩, hr.far (fun _ _ => rfl), ⟨rfl, rfl, rfl, Nat.le_refl _, fun _ _ _ => rfl⟩⟩
  have kn := h0.kn
  have kc := h0.kc
  have hc5 : (Pc.cnt 500 l).1 ≤ 500 := by simp only [Pc.cnt]; omega
  clear he hr
  go_enter Try.func54, Try.ntmps54
  go_wp2_with fail
  go_region_held3 (fun w' => w'.cell? ⟨gn, 0, none⟩ = some (.func (.func 46) #[] #[.pointer (some ⟨g, 0, none⟩)]) ∧ w'.cell? ⟨gc, 0, none⟩ = some (.func (.func 47) #[] #[.pointer (some ⟨gn, 0, none⟩)])) (first | (refine ⟨?_, ?_⟩ <;> assumption) | go_keep)
    (first | (go_at_call 47; refine (count_any g gn gc lo _ 500 _ h0.env h0.rdr).mono ?_; rintro e w1 ⟨rfl, hs⟩; have h1 := h0.step hs; have kn := h1.kn; have kc := h1.kc; have hlt1 := Nat.lt_of_lt_of_le hlt h1.only.size) | (go_at_call 48; refine (lists_int g gn gc lo _ _ _ h1.env h1.rdr hlt1 (by omega)).mono ?_; rintro e w2 ⟨⟨v, rfl, hv⟩, hs2⟩; have h2 := h1.step hs2; have kn := h2.kn; have kc := h2.kc))
  go_wp2_with fail
  go_ret
  exact ⟨⟨_, rfl, hv.widen h1.only.size (Nat.le_refl _)⟩, h2.rdr, h2.only⟩


set_option maxRecDepth 100000 in
set_option maxHeartbeats 4000000 in
theorem lists_in (g gn gc lo : Nat) (l : List Int) (n : Int) (w : World) (he : Env g gn gc w) (hr : Rdr g lo w l) (hlt : gc < w.heap.size) (hn : n ≤ 1000) :
    Calls Try.prog 49 #[.int .i64 n, .func (.func 50) #[] #[.pointer (some ⟨gc, 0, none⟩), .pointer (some ⟨gn, 0, none⟩)]] w fun x w' => (∃ v, x = .returned v ∧ SliceIs Rep.msg.slice true w' w.heap.size w'.heap.size v (Pc.rep Pc.rin n.toNat l).1) ∧ Step g lo w w' (Pc.rep Pc.rin n.toNat l).2 := by
  have h0 := ListInv.start (r := Rep.msg.slice) (one := Pc.rin) (e := 45) he hr hlt
  clear he hr
  go_enter Try.func49, Try.ntmps49
  go_wp2_with fail
  go_loopg [5, 7] n.toNat (fun k v i wr => ∃ j : Nat, i = .int .i64 (j : Int) ∧ j ≤ n.toNat ∧ k = n.toNat - j ∧ ListInv Rep.msg.slice Pc.rin 45 g lo gn gc w.heap.size w l j v wr)
  case atStart => exact ⟨0, rfl, by omega, by omega, h0⟩
  case round =>
    clear h0
    obtain ⟨j, rfl, hj, hk, hi⟩ := hrel
    have HK := Lib.hid hk; clear hk
    by_cases hjn : (j : Int) < n
    · go_wp2_with fail
      refine (rin_any g gn gc lo _ _ hi.env hi.rdr (Nat.lt_of_lt_of_le hlt hi.only.size)).mono ?_
      rintro e w1 ⟨⟨v1, rfl, hv1⟩, hs⟩
      obtain ⟨A1, c1, rfl, hl1, hm1, ha1⟩ := hv1
      obtain ⟨xs, hown, hB, hnext⟩ := hi.next hs (cs := [.slice A1 (Pc.rin (Pc.rep Pc.rin j l).2).1.length c1]) ⟨_, rfl, A1, c1, rfl, hl1, hm1, ha1⟩
      have HN := Lib.hid hnext; clear hnext
      go_wp2_with (at_builtin; refine wpList_appendB rfl (.tmp 9) (.tmp 12) 23 rfl w.heap.size 45 Try.infoMsgs Try.underlying23 rfl Rep.msg.slice.pos _ j xs rfl hown 1 1 _ [.slice A1 (Pc.rin (Pc.rep Pc.rin j l).2).1.length c1] rfl (by simp) rfl (by simp [Value.oneCell']) (by unfold maxLen; omega) (by omega) hB ?_; intro v2 w2 ho2 hg2 hb2 ha2)
      have hi2 := HN.out v2 w2 ho2 hg2 hb2 ha2
      go_roundg (n.toNat - (j + 1))
      case rel => exact ⟨j + 1, by simp, by omega, rfl, hi2⟩
      case measure => have := HK.out; omega
    · have hj2 : j = n.toNat := by omega
      subst hj2
      have HI := Lib.hid hi; clear hi
      go_wp2_with fail
      go_ret
      exact ⟨⟨_, rfl, HI.out.done⟩, HI.out.rdr, HI.out.only⟩

set_option maxRecDepth 100000 in
set_option maxHeartbeats 4000000 in
theorem lists_out (g gn gc lo : Nat) (l : List Int) (n : Int) (w : World) (he : Env g gn gc w) (hr : Rdr g lo w l) (hlt : gc < w.heap.size) (hn : n ≤ 1000) :
    Calls Try.prog 53 #[.int .i64 n, .func (.func 54) #[] #[.pointer (some ⟨gc, 0, none⟩), .pointer (some ⟨gn, 0, none⟩)]] w fun x w' => (∃ v, x = .returned v ∧ SliceIs Rep.int.slice true w' w.heap.size w'.heap.size v (Pc.rep Pc.rout n.toNat l).1) ∧ Step g lo w w' (Pc.rep Pc.rout n.toNat l).2 := by
  have h0 := ListInv.start (r := Rep.int.slice) (one := Pc.rout) (e := 22) he hr hlt
  clear he hr
  go_enter Try.func53, Try.ntmps53
  go_wp2_with fail
  go_loopg [5, 7] n.toNat (fun k v i wr => ∃ j : Nat, i = .int .i64 (j : Int) ∧ j ≤ n.toNat ∧ k = n.toNat - j ∧ ListInv Rep.int.slice Pc.rout 22 g lo gn gc w.heap.size w l j v wr)
  case atStart => exact ⟨0, rfl, by omega, by omega, h0⟩
  case round =>
    clear h0
    obtain ⟨j, rfl, hj, hk, hi⟩ := hrel
    have HK := Lib.hid hk; clear hk
    by_cases hjn : (j : Int) < n
    · go_wp2_with fail
      refine (rout_any g gn gc lo _ _ hi.env hi.rdr (Nat.lt_of_lt_of_le hlt hi.only.size)).mono ?_
      rintro e w1 ⟨⟨v1, rfl, hv1⟩, hs⟩
      obtain ⟨A1, c1, rfl, hl1, hm1, ha1⟩ := hv1
      obtain ⟨xs, hown, hB, hnext⟩ := hi.next hs (cs := [.slice A1 (Pc.rout (Pc.rep Pc.rout j l).2).1.length c1]) ⟨_, rfl, A1, c1, rfl, hl1, hm1, ha1⟩
      have HN := Lib.hid hnext; clear hnext
      go_wp2_with (at_builtin; refine wpList_appendB rfl (.tmp 9) (.tmp 12) 24 rfl w.heap.size 22 Try.infoInts Try.underlying24 rfl Rep.int.slice.pos _ j xs rfl hown 1 1 _ [.slice A1 (Pc.rout (Pc.rep Pc.rout j l).2).1.length c1] rfl (by simp) rfl (by simp [Value.oneCell']) (by unfold maxLen; omega) (by omega) hB ?_; intro v2 w2 ho2 hg2 hb2 ha2)
      have hi2 := HN.out v2 w2 ho2 hg2 hb2 ha2
      go_roundg (n.toNat - (j + 1))
      case rel => exact ⟨j + 1, by simp, by omega, rfl, hi2⟩
      case measure => have := HK.out; omega
    · have hj2 : j = n.toNat := by omega
      subst hj2
      have HI := Lib.hid hi; clear hi
      go_wp2_with fail
      go_ret
      exact ⟨⟨_, rfl, HI.out.done⟩, HI.out.rdr, HI.out.only⟩
end Go.Proofs.Ytdfgnmdofjhnkaa
