/- WordMany: the walk. -/
import Derived.Test.YtlgacmhkkepjfaaWTells
import Derived.Maps.AppendAt
namespace Go.Proofs.Ytlgacmhkkepjfaa
open Go.RowKit

/-- 'append(s, x)', x one cell, s a row of the call's own; and where the new row lies. -/
theorem wpList_append1_at {P : Program} {w : World} {ops : Array Oper} {rest : List Oper} {o : Oper} {a : Act} {Q : Exit → Act → World → Prop} (hgd : o.guard = none) (s x : Operand) (t : TypeId)
    (ho : o.op = .call { callee := .builtin .append, args := #[s, x], argTypes := #[t, t] })
    (base : Nat) (e : TypeId) {z : Value} {bytes : Nat} (hinfo : (P.info? e).map (fun i => (i.zero, i.size, i.bytes)) = some (some z, 1, bytes)) (ht : P.underlying t = some (.slice e)) (hzs : z.cells.size = 1)
    (v : Value) (n : Nat) (xs : List Value) (hs : a.eval s = v) (hown : w.ownsRow base e 1 v n xs)
    (u : Value) (hx : a.eval x = .slice (some ⟨w.heap.size, 0, none⟩) 1 1) (h1 : u.oneCell' = true)
    (hbytes : (n + 1) * bytes ≤ 140737488355328) (h63 : n + 1 ≤ 9223372036854775807) (hbase : base ≤ w.heap.size)
    (h : ∀ v' w', w'.ownsRow base e 1 v' (n + 1) (xs ++ [u]) → w.grownBy w' v.ownBlock → Below base w w' → (v'.ownBlock = v.ownBlock ∨ v'.ownBlock = some (w.heap.size + 1)) → wpList P ops Q rest (a.put o.dst v') w') :
    wpList P ops Q (o :: rest) a (w.alloc (.cells #[u] e)) := by
  obtain ⟨i0, hi0, hz0, hz1, hz2⟩ := info_parts hinfo
  have hown' : (w.alloc (.cells #[u] e)).ownsRow base e 1 v n xs := hown.alloc _
  refine wpList_append_own_at _ hgd s x t ho base e i0 z 1 bytes ht hi0 hz0 hz1 hz2 hzs (by omega) v n xs hs hown' _ 1 1 [u] hx rfl (cell_one_new w u e) (by simpa using h1) (by unfold maxLen; omega) hbytes (by simp; omega) ?_
  intro v' w' ho' hg' _ hat
  have hg2 : w.grownBy w' v.ownBlock := by
    have h0 := World.grownBy_alloc w (.cells #[u] e) v.ownBlock
    exact ⟨hg'.os.trans h0.os, hg'.tape.trans h0.tape, hg'.output.trans h0.output, Nat.le_trans h0.size hg'.size, fun k hk hne => (hg'.block k (by simp; omega) hne).trans (h0.block k hk hne)⟩
  exact h v' w' ho' hg2 (below_of_grown hown hg2 hbase) (by simpa using hat)

theorem cl_spell (x : Int) : (W.cl x : Int) = max 0 (min x 2147483647) := by unfold W.cl; omega

def ManyRel (xs : List Int) (w : World) (k : Nat) (i b : Value) (wr : World) : Prop :=
  ∃ (j : Nat) (acc : List Nat), i = .int .i64 (j : Int) ∧ j ≤ xs.length ∧ k = xs.length - j ∧ acc.length = j ∧ wr.ownsRow w.heap.size 3 1 b acc.length (i64s acc) ∧ acc = (xs.take j).map W.cl ∧ Below w.heap.size w wr

def MoreRel (xs ys : List Int) (va : Value) (B : Nat) (w : World) (k : Nat) (i b : Value) (wr : World) : Prop :=
  ∃ (j : Nat) (acc : List Nat), i = .int .i64 (j : Int) ∧ j ≤ ys.length ∧ k = ys.length - j ∧ acc.length = xs.length + j ∧ wr.ownsRow w.heap.size 3 1 b acc.length (i64s acc) ∧ acc = xs.map W.cl ++ (ys.take j).map W.cl ∧ Below w.heap.size w wr ∧
    wr.ownsRow B 3 1 va xs.length (i64s (xs.map W.cl)) ∧ (va.ownBlock = none ∨ va.ownBlock ≠ b.ownBlock)

theorem all_q {s : ByteArray} {xs : List Int} (h : s.data.toList = W.puts xs) (hs : s.size ≤ 1000000000) (w : World) : Calls Try.prog 17 #[.string s] w
    fun y w' => (∃ v, y = .returned (.tuple #[v, .int .i64 0]) ∧ w'.ownsRow w.heap.size 3 1 v xs.length (i64s (xs.map W.cl))) ∧ Below w.heap.size w w' := by
  refine (all_any s w hs).mono ?_
  have := W.all_puts xs []
  rw [List.append_nil, W.all_nil] at this
  rw [h, this]
  rintro y w' ⟨⟨v, rfl, ho⟩, hb⟩
  exact ⟨⟨v, rfl, by simpa using ho⟩, hb⟩

namespace wordMany

set_option maxRecDepth 100000 in
set_option maxHeartbeats 4000000 in
theorem walk (v0 : Value) (x0 : List Int) (v1 : Value) (x1 : List Int) (w : World) (hx0 : IsInts w w.heap.size v0 x0) (hx1 : IsInts w w.heap.size v1 x1) :
    Calls Try.prog 10 #[v0, v1] w fun e w' => e = .returned (.bool true) ∧ Below w.heap.size w w' := by
  obtain ⟨A, c, rfl, hn, hm, hc⟩ := hx0
  obtain ⟨A', c', rfl, hn', hm', hc'⟩ := hx1
  have hV : IsInts w w.heap.size (.slice A (min (x0.length : Int) 30).toNat c) (x0.take 30) := ints_cut (k := 30) hn hm hc
  have hV' : IsInts w w.heap.size (.slice A' (min (x1.length : Int) 30).toNat c') (x1.take 30) := ints_cut (k := 30) hn' hm' hc'
  have hl : (min (x0.length : Int) 30).toNat = (x0.take 30).length := by simp; omega
  have hl' : (min (x1.length : Int) 30).toNat = (x1.take 30).length := by simp; omega
  have hb0 : (x0.take 30).length ≤ 30 := by simp; omega
  have hb1 : (x1.take 30).length ≤ 30 := by simp; omega
  generalize x0.take 30 = xs at hV hl hb0
  generalize x1.take 30 = ys at hV' hl' hb1
  rw [hl] at hV; rw [hl'] at hV'
  have HL := Lib.hid hl; clear hl
  have HL' := Lib.hid hl'; clear hl'
  clear hc hc'
  obtain ⟨S, hS⟩ : ∃ S, ByteArray.mk (W.puts xs).toArray = S := ⟨_, rfl⟩
  obtain ⟨T, hT⟩ : ∃ T, ByteArray.mk (W.puts ys).toArray = T := ⟨_, rfl⟩
  have ha : ∀ w, _ := fun w => all_q (s := S) (xs := xs) (by rw [← hS]) (by rw [← hS, size_bs]; have := W.puts_len xs; omega) w
  have hb : ∀ w, _ := fun w => all_q (s := S ++ T) (xs := xs ++ ys) (by rw [← hS, ← hT, W.puts_append]; simp) (by rw [← hS, ← hT, ByteArray.size_append, size_bs, size_bs]; have := W.puts_len xs; have := W.puts_len ys; omega) w
  have HA := Lib.hid ha; clear ha
  have HB := Lib.hid hb; clear hb
  have hs1 : S.size ≤ 150 := by rw [← hS, size_bs]; have := W.puts_len xs; omega
  have hs2 : T.size ≤ 150 := by rw [← hT, size_bs]; have := W.puts_len ys; omega
  have HS := Lib.hid hS; clear hS
  have HT := Lib.hid hT; clear hT
  have HV := Lib.hid hV; clear hV
  have HV' := Lib.hid hV'; clear hV'
  have hq : (x0.length : Int) ≤ c := by omega
  have hq' : (x1.length : Int) ≤ c' := by omega
  unfold maxLen at hm hm'
  go_enter Try.func10, Try.ntmps10
  go_wp2_with fail
  rw [HL.out, HL'.out]
  go_loopg [6, 5] xs.length (fun k i b wr => ManyRel xs w k i b wr)
  case atStart => exact ⟨0, [], rfl, by omega, by omega, rfl, World.ownsRow_made _ _ _ (Nat.le_refl _) (by unfold maxLen; omega) rfl, rfl, (Below.refl _ _).alloc (Nat.le_refl _) _⟩
  case round =>
    obtain ⟨j, acc, rfl, hj, hk, hlen, hown, hacc, hbw⟩ := hrel
    have HK := Lib.hid hk; clear hk
    have HACC := Lib.hid hacc; clear hacc
    have hsz := hbw.size
    by_cases hlt : j < xs.length
    · obtain ⟨A2, c2, hAe, hn2, hm2, hc2⟩ := HV.out
      injection hAe with e1 e2 e3
      subst e1 e3
      obtain ⟨g, o, rfl, hg, hcell⟩ := hc2 (by rintro rfl; simp at hlt)
      have hcj : wr.cell? ⟨g, o + j, none⟩ = some (.int .i64 (xs.getD j 0)) := (hbw.cell hg).trans (hcell j hlt)
      obtain ⟨x, hx⟩ : ∃ x, xs.getD j 0 = x := ⟨_, rfl⟩
      rw [hx] at hcj
      have HX := Lib.hid hx; clear hx
      clear hcell hc2 e2
      go_wp2_with (at_builtin; refine wpList_append1_at rfl _ _ 34 rfl w.heap.size 3 Try.infoInt Try.underlying34 rfl _ _ _ rfl hown (.int .i64 (max 0 (min x 2147483647))) rfl rfl (by omega) (by omega) (by omega) ?_; intro v2 w2 hown2 hg2 hb2 hat2)
      rw [← cl_spell, i64s_snoc] at hown2
      go_roundg (xs.length - (j + 1))
      case rel => exact ⟨j + 1, acc ++ [W.cl x], by simp, by omega, rfl, by simp; omega, by simpa using hown2, by rw [HACC.out, W.take_snoc xs j hlt, HX.out]; simp, hbw.trans hb2⟩
      case measure => have := HK.out; omega
    · have hj2 : j = xs.length := by omega
      subst hj2
      have hacc := HACC.out
      rw [List.take_of_length_le (Nat.le_refl _)] at hacc
      subst hacc
      clear HACC HK hlt hj
      go_wp2_with fail
      refine (puts_q HS.out ((HV.out.keep hbw).up hbw.size) (by omega)).mono ?_
      rintro y w1 ⟨rfl, hb1⟩
      have hown1 := own_below hown hb1
      replace hbw := hbw.trans (hb1.mono hbw.size)
      have hlt1 := hown1.lt
      clear hb1 hown
      go_wp2_with fail
      refine (HA.out _).mono ?_
      rintro y w2 ⟨⟨va, rfl, ha⟩, hb2⟩
      have hown2 := own_below hown1 hb2
      have hsep : va.ownBlock = none ∨ va.ownBlock ≠ u5.ownBlock := by
        cases hv : va.ownBlock with
        | none => exact .inl rfl
        | some k =>
          refine .inr (fun e => ?_)
          have h1 := ha.lt k hv
          have h2 := hlt1 k e.symm
          omega
      replace hbw := hbw.trans (hb2.mono hbw.size)
      clear hb2 hown1 hlt1
      go_wp2_with fail
      go_loopg [9, 5] ys.length (fun k i b wr => MoreRel xs ys va w1.heap.size w k i b wr)
      case atStart => exact ⟨0, xs.map W.cl, rfl, by omega, by omega, by simp, by simpa using hown2, by simp, hbw, ha, hsep⟩
      case round =>
        clear hbw hown2 ha hsep
        obtain ⟨j, acc, rfl, hj, hk, hlen, hown, hacc, hbw, ha, hsep⟩ := hrel
        have HK := Lib.hid hk; clear hk
        have HACC := Lib.hid hacc; clear hacc
        have hsz := hbw.size
        by_cases hlt : j < ys.length
        · obtain ⟨A2, c2, hAe, hn2, hm2, hc2⟩ := HV'.out
          injection hAe with e1 e2 e3
          subst e1 e3
          obtain ⟨g, o, rfl, hg, hcell⟩ := hc2 (by rintro rfl; simp at hlt)
          have hcj : wr.cell? ⟨g, o + j, none⟩ = some (.int .i64 (ys.getD j 0)) := (hbw.cell hg).trans (hcell j hlt)
          obtain ⟨x, hx⟩ : ∃ x, ys.getD j 0 = x := ⟨_, rfl⟩
          rw [hx] at hcj
          have HX := Lib.hid hx; clear hx
          clear hcell hc2 e2
          go_wp2_with (at_builtin; refine wpList_append1_at rfl _ _ 34 rfl w.heap.size 3 Try.infoInt Try.underlying34 rfl _ _ _ rfl hown (.int .i64 (max 0 (min x 2147483647))) rfl rfl (by omega) (by omega) (by omega) ?_; intro v2 w2 hown2 hg2 hb2 hat2)
          rw [← cl_spell, i64s_snoc] at hown2
          go_roundg (ys.length - (j + 1))
          case rel =>
            refine ⟨j + 1, acc ++ [W.cl x], by simp, by omega, rfl, by simp; omega, by simpa using hown2, by rw [HACC.out, W.take_snoc ys j hlt, HX.out]; simp, hbw.trans hb2, ha.kept hg2 hsep, ?_⟩
            rcases hat2 with h2 | h2
            · rw [h2]; exact hsep
            · rw [h2]
              cases hv : va.ownBlock with
              | none => exact .inl rfl
              | some q => have := (ha.lt q hv).2; exact .inr (by intro h; injection h; omega)
          case measure => have := HK.out; omega
        · have hj2 : j = ys.length := by omega
          subst hj2
          have hacc := HACC.out
          rw [List.take_of_length_le (Nat.le_refl _)] at hacc
          have i5 := isInts_of_own hown
          rw [hacc] at i5
          have i1 := isInts_of_own (l := xs.map W.cl) (by simpa using ha)
          have l5 : acc.length = xs.length + ys.length := hlen
          clear hown hacc HACC HK hlt hj hlen ha hsep
          generalize hZ : List.map (fun (n : Nat) => (n : Int)) (xs.map W.cl ++ ys.map W.cl) = Z at i5
          generalize hY : List.map (fun (n : Nat) => (n : Int)) (xs.map W.cl) = Y at i1
          have lz : Z.length = xs.length + ys.length := by rw [← hZ]; simp
          have ly : Y.length = xs.length := by rw [← hY]; simp
          have zy : Z.take xs.length = Y := by rw [← hZ, ← hY]; simp
          obtain ⟨A5, c5, rfl, n5, m5, k5⟩ := i5
          have iz : IsInts wr wr.heap.size (.slice A5 xs.length c5) Y := by
            have := ints_cut (k := xs.length) n5 m5 k5
            rw [zy] at this
            rwa [show (min ((Z.length : Nat) : Int) ((xs.length : Nat) : Int)).toNat = xs.length from by omega] at this
          have i5 : IsInts wr wr.heap.size (.slice A5 Z.length c5) Z := ⟨A5, c5, rfl, n5, m5, k5⟩
          have HZ := Lib.hid hZ; clear hZ
          have HY := Lib.hid hY; clear hY
          have HI5 := Lib.hid i5; clear i5
          have HI1 := Lib.hid i1; clear i1
          have HIZ := Lib.hid iz; clear iz
          have HLZ := Lib.hid lz; clear lz
          have HLY := Lib.hid ly; clear ly
          clear zy k5
          unfold maxLen at m5
          have c5' : xs.length ≤ c5 := by have := HLZ.out; omega
          go_wp2_with fail
          refine (puts_q HS.out ((HV.out.keep hbw).up hbw.size) (by omega)).mono ?_
          rintro y w3 ⟨rfl, hb3⟩
          have bb := hb3
          go_wp2_with fail
          refine (puts_q HT.out ((HV'.out.keep (hbw.trans (bb.mono hsz))).up (hbw.trans (bb.mono hsz)).size) (by omega)).mono ?_
          rintro y w4 ⟨rfl, hb4⟩
          replace bb := bb.trans (hb4.mono bb.size)
          go_wp2_with fail
          refine (HB.out _).mono ?_
          rintro y w5 ⟨⟨vb, rfl, hbo⟩, hb5⟩
          replace bb := bb.trans (hb5.mono bb.size)
          have ib := isInts_of_own (l := (xs ++ ys).map W.cl) (by simpa using hbo)
          rw [List.map_append, HZ.out] at ib
          have HIB := Lib.hid ib; clear ib hbo
          clear hb3 hb4 hb5
          go_wp2_with fail
          refine (ints_any _ _ Y Y _ ((HI1.out.keep bb).up bb.size) ((HIZ.out.keep bb).up bb.size) (by have := HLY.out; omega) (by have := HLY.out; omega)).mono ?_
          rintro y w6 ⟨rfl, hb6⟩
          rw [decide_eq_true rfl]
          have ib6 := (HIB.out.keep hb6).up hb6.size
          replace bb := bb.trans (hb6.mono bb.size)
          have HIB6 := Lib.hid ib6; clear ib6 hb6
          go_wp2_with fail
          refine (ints_any _ _ Z Z _ HIB6.out ((HI5.out.keep bb).up bb.size) (by have := HLZ.out; omega) (by have := HLZ.out; omega)).mono ?_
          rintro y w7 ⟨rfl, hb7⟩
          rw [decide_eq_true rfl]
          replace bb := bb.trans (hb7.mono bb.size)
          clear hb7
          go_wp2_with fail
          refine (fixed_any _).mono ?_
          rintro y w8 ⟨rfl, hb8⟩
          go_wp2_with fail
          go_ret
          exact ⟨rfl, (hbw.trans (bb.mono hsz)).trans (hb8.mono (by have := bb.size; omega))⟩
end wordMany
end Go.Proofs.Ytlgacmhkkepjfaa
