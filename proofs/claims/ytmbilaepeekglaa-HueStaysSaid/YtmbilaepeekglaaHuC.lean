/- slices.IndexFunc over messages with hue.Rest's closure; slices.DeleteFunc; hue.Rest -/
import Derived.Test.YtmbilaepeekglaaHuB
namespace Go.Proofs.Ytmbilaepeekglaa
open Go.RowKit Go.Maps

namespace Pc
/-- What 'idx' gives: nowhere, or the first place. -/
theorem idx_spec {α : Type} (b : α → Bool) : ∀ l : List α, (idx b l = -1 ∧ clear b l l.length) ∨ ∃ (k : Nat) (x : α), idx b l = (k : Int) ∧ k < l.length ∧ l[k]? = some x ∧ b x = true ∧ clear b l k := by
  intro l
  cases h : l.any b with
  | false =>
    have hc : clear b l l.length := by
      intro i y _ hy
      rw [List.any_eq_false] at h
      exact Bool.eq_false_iff.2 (h y (List.mem_of_getElem? hy))
    exact .inl ⟨clear_all hc, hc⟩
  | true =>
    have hf : (l.findIdx? b).isSome = true := by rw [List.findIdx?_isSome]; exact h
    obtain ⟨k, hk⟩ := Option.isSome_iff_exists.1 hf
    obtain ⟨h1, h2, h3⟩ := List.findIdx?_eq_some_iff_getElem.1 hk
    have hc : clear b l k := by
      intro i y hi hy
      obtain ⟨h4, rfl⟩ := List.getElem?_eq_some_iff.1 hy
      simpa using h3 i hi
    exact .inr ⟨k, l[k], clear_at hc (List.getElem?_eq_getElem h1) h2, h1, List.getElem?_eq_getElem h1, h2, hc⟩
theorem clear_take {α : Type} {b : α → Bool} {l : List α} {k : Nat} (h : clear b l k) : (l.take k).filter (fun x => !b x) = l.take k := by
  rw [List.filter_eq_self]
  intro x hx
  obtain ⟨i, hi, rfl⟩ := List.mem_take_iff_getElem.1 hx
  rw [h i _ (by omega) (List.getElem?_eq_getElem (by omega))]; rfl
end Pc

/-- The loop of DeleteFunc: i are kept of the first j. -/
structure DelInv (p : (Int × Int) → Bool) (xs : List (Int × Int)) (i j : Nat) (ys : List (Int × Int)) : Prop where
  len : ys.length = xs.length
  rest : ys.drop j = xs.drop j
  kept : ys.take i = (xs.take j).filter fun x => !p x
  lt : i < j
section
variable {p : (Int × Int) → Bool} {xs ys : List (Int × Int)} {i j k : Nat} {m : Int × Int}
theorem DelInv.start (hc : Pc.clear p xs k) (hm : xs[k]? = some m) (hp : p m = true) : DelInv p xs k (k + 1) xs := by
  refine ⟨rfl, rfl, ?_, Nat.lt_succ_self _⟩
  rw [Pc.take_next hm, List.filter_append, Pc.clear_take hc]
  simp [hp]
theorem DelInv.at_ (h : DelInv p xs i j ys) : ys[j]? = xs[j]? := by
  have := congrArg (fun l : List (Int × Int) => l[0]?) h.rest
  simpa using this
theorem size_setCells (b : Nat) : ∀ (vs : List Value) (o : Nat) (w : World), (w.setCells b o vs).heap.size = w.heap.size := by
  intro vs
  induction vs with
  | nil => intro o w; rfl
  | cons v vs ih => intro o w; rw [World.setCells, ih]; simp [World.setCell]
theorem drop_next {a b : List (Int × Int)} (h : a.drop j = b.drop j) : a.drop (j + 1) = b.drop (j + 1) := by
  rw [← List.drop_drop, ← List.drop_drop, h]
theorem DelInv.keep (h : DelInv p xs i j ys) (hm : xs[j]? = some m) (hp : p m = false) : DelInv p xs (i + 1) (j + 1) (ys.set i m) := by
  have hj := (List.getElem?_eq_some_iff.1 hm).1
  have hi := h.lt
  have hl := h.len
  refine ⟨by rw [List.length_set, h.len], ?_, ?_, by omega⟩
  · rw [List.drop_set_of_lt (by omega)]; exact drop_next h.rest
  · rw [Pc.take_next hm, List.filter_append, ← h.kept, List.take_add_one, List.take_set_of_le (Nat.le_refl _)]
    simp [hp, show i < ys.length by omega]
theorem DelInv.skip (h : DelInv p xs i j ys) (hm : xs[j]? = some m) (hp : p m = true) : DelInv p xs i (j + 1) ys := by
  refine ⟨h.len, drop_next h.rest, ?_, Nat.lt_succ_of_lt h.lt⟩
  rw [Pc.take_next hm, List.filter_append, ← h.kept]
  simp [hp]
end

set_option maxRecDepth 100000 in
set_option maxHeartbeats 2000000 in
theorem index1_any (g b : Nat) (seen : List (Int × Int)) (v : Value) (xs : List (Int × Int)) (w : World) {fr : Bool} {lo : Nat} (h : SliceIs Rep.msg fr w lo w.heap.size v xs) (hwf : ∀ m ∈ xs, Wf m.1) (hbox : Box w g #[.map (some b)] 64) (hc : CntIs w b seen) :
    Calls Try.prog 38 #[v, .func (.func 30) #[] #[.pointer (some ⟨g, 0, none⟩)]] w fun x w' => x = .returned (.int .i64 (Pc.idx (fun m => Hu.has seen m.1) xs)) ∧ Below w.heap.size w w' := by
  obtain ⟨A, c, rfl, hl, hm, hA⟩ := h
  unfold maxLen at hm
  have HA := Lib.hid hA; clear hA
  have HW := Lib.hid hwf; clear hwf
  have HB := Lib.hid hbox; clear hbox
  have HC := Lib.hid hc; clear hc
  go_enter Try.func38, Try.ntmps38
  go_wp2_with fail
  go_loopg [5, 8] xs.length (fun k _ i wr => ∃ j : Nat, i = .int .i64 (j : Int) ∧ j ≤ xs.length ∧ k = xs.length - j ∧ Pc.clear (fun m : Int × Int => Hu.has seen m.1) xs j ∧ Below w.heap.size w wr)
  case atStart => exact ⟨0, rfl, by omega, by omega, Pc.clear_zero _ _, Below.refl _ _⟩
  case round =>
    obtain ⟨j, rfl, hj, hk, hr, hb⟩ := hrel
    have HR := Lib.hid hr; clear hr
    have HK := Lib.hid hk; clear hk
    by_cases hlt : j < xs.length
    · obtain ⟨x, hx⟩ := Pc.get_at hlt
      obtain ⟨gx, o, rfl, _, hg, c0, c1⟩ := (HA.out.below hb (Nat.le_refl _)).msg hx
      have hwx := HW.out x (List.mem_of_getElem? hx)
      have HX := Lib.hid hx; clear hx
      go_wp2_with fail
      refine (rest1_any x g b seen _ hwx (HB.out.next hb) (HC.out.next hb)).mono ?_
      rintro e w1 ⟨rfl, hb1⟩
      cases hbx : Hu.has seen x.1
      · have HBX := Lib.hid hbx; clear hbx
        go_wp2_with fail
        go_roundg (xs.length - (j + 1))
        case rel => exact ⟨j + 1, by simp, by omega, rfl, Pc.clear_next HR.out HX.out HBX.out, hb.trans (hb1.mono hb.size)⟩
        case measure => have := HK.out; omega
      · have HBX := Lib.hid hbx; clear hbx
        go_wp2_with fail
        go_ret
        exact ⟨by rw [Pc.clear_at HR.out HX.out HBX.out]; rfl, hb.trans (hb1.mono hb.size)⟩
    · go_wp2_with fail
      go_ret
      have hj2 : j = xs.length := by omega
      subst hj2
      exact ⟨by rw [Pc.clear_all HR.out]; rfl, hb⟩

set_option maxRecDepth 100000 in
set_option maxHeartbeats 4000000 in
theorem del_any (g b B : Nat) (seen : List (Int × Int)) (v : Value) (xs : List (Int × Int)) (w : World) (h : SliceIs Rep.msg true w B w.heap.size v xs) (hx : xs.length ≤ 1000000) (hwf : ∀ m ∈ xs, Wf m.1) (hbox : Box w g #[.map (some b)] 64) (hc : CntIs w b seen) (hg : g < B) (hb : b < B) (hB : B ≤ w.heap.size) :
    Calls Try.prog 28 #[v, .func (.func 30) #[] #[.pointer (some ⟨g, 0, none⟩)]] w
      fun y w' => (∃ v', y = .returned v' ∧ SliceIs Rep.msg true w' B w'.heap.size v' (xs.filter fun m => !Hu.has seen m.1)) ∧ Below B w w' := by
  have hI := index1_any g b seen v xs w h hwf hbox hc
  obtain ⟨A, c, rfl, hl, hm, hA⟩ := h
  unfold maxLen at hm
  rcases Pc.idx_spec (fun m : Int × Int => Hu.has seen m.1) xs with ⟨hi, hcl⟩ | ⟨k, m, hi, hk, hxk, hp, hcl⟩
  · rw [hi] at hI
    have hf : xs.filter (fun m => !Hu.has seen m.1) = xs := by
      have := Pc.clear_take hcl
      rwa [List.take_length] at this
    rw [hf]
    have HI := Lib.hid hI; clear hI
    have HA := Lib.hid hA; clear hA hcl hwf hbox hc hi hf
    go_enter Try.func28, Try.ntmps28
    go_wp2_with fail
    refine HI.out.mono ?_
    rintro e w1 ⟨rfl, hb1⟩
    go_wp2_with fail
    go_ret
    exact ⟨⟨_, rfl, A, c, rfl, hl, by unfold maxLen; omega, (HA.out.below hb1 (Nat.le_refl _)).widen (Nat.le_refl _) hb1.size⟩, hb1.mono hB⟩
  · rw [hi] at hI
    have hst := DelInv.start (p := fun m : Int × Int => Hu.has seen m.1) hcl hxk hp
    obtain ⟨gx, o, rfl, hg1, hg2, hrow⟩ := RowIs.of hA (by omega)
    have HI := Lib.hid hI; clear hI
    have HS := Lib.hid hst; clear hst
    have HR := Lib.hid hrow; clear hrow
    have HW := Lib.hid hwf; clear hwf
    have HB := Lib.hid hbox; clear hbox
    have HC := Lib.hid hc; clear hc
    clear hA hcl hxk hp hi
    have hne : ((k : Int) == -1) = false := beq_eq_false_iff_ne.2 (by omega)
    go_enter Try.func28, Try.ntmps28
    go_wp2_with fail
    refine HI.out.mono ?_
    rintro e w1 ⟨rfl, hb1⟩
    go_wp2_with fail
    go_loopg [5, 6, 7] (xs.length - (k + 1)) (fun q s5 s6 _ wr => ∃ (i j : Nat) (ys : List (Int × Int)), s5 = .int .i64 (i : Int) ∧ s6 = .int .i64 (j : Int) ∧ j ≤ xs.length ∧ q = xs.length - j ∧ RowIs wr gx o ys ∧ DelInv (fun m : Int × Int => Hu.has seen m.1) xs i j ys ∧ Below B w wr)
    case atStart => exact ⟨k, k + 1, xs, rfl, by simp, by omega, by omega, HR.out.keep (hb1.block gx hg2), HS.out, hb1.mono hB⟩
    case round =>
      obtain ⟨i, j, ys, rfl, rfl, hj, hq, hrow, hinv, hbl⟩ := hrel
      have HK := Lib.hid hq; clear hq
      have hij := hinv.lt
      have hlen := hinv.len
      by_cases hlt : j < xs.length
      · obtain ⟨x, hx⟩ := Pc.get_at hlt
        have hy := hinv.at_.trans hx
        obtain ⟨c0, c1, f0, f1⟩ := hrow j x hy
        have hwx := HW.out x (List.mem_of_getElem? hx)
        have hbx := HB.out.below hbl hg
        have hcx := HC.out.below hbl hb
        have HX := Lib.hid hx; clear hx hy
        have HBX := Lib.hid hbx; clear hbx
        have HCX := Lib.hid hcx; clear hcx
        have HRW := Lib.hid hrow; clear hrow
        have HIN := Lib.hid hinv; clear hinv
        go_wp2_with fail
        have hba : Below wr.heap.size wr (wr.alloc (.cells #[.int .i64 x.1, .int .i64 x.2] 54)) := (Below.refl _ _).alloc (Nat.le_refl _) _
        have hbx0 : Box (wr.alloc (.cells #[.int .i64 x.1, .int .i64 x.2] 54)) wr.heap.size #[.int .i64 x.1, .int .i64 x.2] 54 := Box.new _ _ _
        refine (rest1_any x g b seen _ hwx (HBX.out.next hba) (HCX.out.next hba)).mono ?_
        rintro e w2 ⟨rfl, hb2⟩
        replace hbx0 := hbx0.next hb2
        have hlo : B ≤ wr.heap.size := Nat.le_trans hB hbl.size
        replace hb2 : Below wr.heap.size wr w2 := hba.trans (hb2.mono hba.size)
        clear hba
        have hgr : gx < wr.heap.size := Nat.lt_of_lt_of_le hg2 (by have := hbl.size; exact this)
        have hr2 := HRW.out.keep (hb2.block gx hgr)
        cases hpx : Hu.has seen x.1
        · have hin2 := HIN.out.keep HX.out hpx
          have HIN2 := Lib.hid hin2; clear hin2
          clear hpx c0 c1 f0 f1
          obtain ⟨y, hy⟩ := Pc.get_at (l := ys) (j := i) (by omega)
          obtain ⟨c0, c1, f0, f1⟩ := hr2 i y hy
          have d0 := blk_cell hbx0 0
          have d1 := blk_cell hbx0 1
          simp only [List.getElem?_toArray, List.getElem?_cons_zero, List.getElem?_cons_succ] at d0 d1
          have hst2 := hr2.set_ i x
          have HST := Lib.hid hst2; clear hst2 hr2 hy hbx0
          go_wp2_with fail
          go_roundg (xs.length - (j + 1))
          case rel => exact ⟨i + 1, j + 1, ys.set i x, by simp, by simp, by omega, rfl, HST.out, HIN2.out, ((hbl.trans (hb2.mono hlo)).setCell hg1 _).setCell hg1 _⟩
          case measure => have := HK.out; omega
        · have hin2 := HIN.out.skip HX.out hpx
          have HIN2 := Lib.hid hin2; clear hin2
          clear hpx
          go_wp2_with fail
          go_roundg (xs.length - (j + 1))
          case rel => exact ⟨i, j + 1, ys, rfl, by simp, by omega, rfl, hr2, HIN2.out, hbl.trans (hb2.mono hlo)⟩
          case measure => have := HK.out; omega
      · have hjl : j = xs.length := by omega
        subst hjl
        have hk3 := hinv.kept
        rw [List.take_length] at hk3
        have HK3 := Lib.hid hk3
        have hf := hrow.clear i (n := (xs.length - i) * 2) (u := .int .i64 0)
        have hrun := run_clear_msgs wr 0 gx (o + i * 2) (xs.length - i) (c - i) (by omega) (fun q hq => by
          obtain ⟨y, hy⟩ := Pc.get_at (l := ys) (j := i + q / 2) (by omega)
          obtain ⟨c0, c1, _, _⟩ := hrow _ y hy
          have hq2 : q % 2 = 0 ∨ q % 2 = 1 := by omega
          rcases hq2 with hq2 | hq2
          · rw [show o + i * 2 + q = o + (i + q / 2) * 2 by omega, c0]; rfl
          · rw [show o + i * 2 + q = o + (i + q / 2) * 2 + 1 by omega, c1]; rfl) (fun q hq => by
          obtain ⟨y, hy⟩ := Pc.get_at (l := ys) (j := i + q / 2) (by omega)
          obtain ⟨_, _, f0, f1⟩ := hrow _ y hy
          have hq2 : q % 2 = 0 ∨ q % 2 = 1 := by omega
          rcases hq2 with hq2 | hq2
          · rw [show o + i * 2 + q = o + (i + q / 2) * 2 by omega, f0]
          · rw [show o + i * 2 + q = o + (i + q / 2) * 2 + 1 by omega, f1])
        have HF := Lib.hid hf; clear hf hrow hinv hk3
        have hil : (ys.take i).length = i := by simp; omega
        go_wp2_with fail
        go_ret
        refine ⟨⟨_, rfl, ?_⟩, ?_⟩
        · rw [← HK3.out]
          exact ⟨some ⟨gx, o, none⟩, c, by rw [hil]; rfl, by rw [hil]; omega, by unfold maxLen; omega, HF.out.at_ hg1 (by rw [size_setCells]; have := hbl.size; omega)⟩
        · exact Go.Lib.below_setCells gx hg1 _ _ hbl

theorem numb_wf {out : List Int} (hx : out.length ≤ 1000000) : ∀ m ∈ Hu.numb 0 out, Wf m.1 := by
  intro m hm
  obtain ⟨i, hi, rfl⟩ := Hu.mem_numb.1 hm
  exact wf_of (by simp; omega) (by simp; omega)

set_option maxRecDepth 100000 in
set_option maxHeartbeats 2000000 in
theorem rest_any (v u : Value) (out : List Int) (l : List (Int × Int)) (w : World) (h : SliceIs Rep.int false w 0 w.heap.size v out) (h' : SliceIs Rep.msg false w 0 w.heap.size u l) (hx : out.length ≤ 1000000) (hl : l.length ≤ 1000000) (hwf : ∀ m ∈ l, Wf m.1) :
    Calls Try.prog 17 #[v, u] w fun y w' => (∃ v', y = .returned v' ∧ SliceIs Rep.msg true w' w.heap.size w'.heap.size v' (Hu.rest out l)) ∧ Below w.heap.size w w' := by
  have hmf : ∀ (fn : Fn) (first cap : Array Value) (w : World), (Instr.makeFunc fn first cap).run Try.prog w = .ok (.func fn first cap) w := fun _ _ _ _ => rfl
  have hT := times_any u l w h' hl hwf
  have HT := Lib.hid hT; clear hT
  have HO := Lib.hid h; clear h
  obtain ⟨A, c, rfl, _, hm, _⟩ := h'
  obtain ⟨A', c', rfl, _, hm', _⟩ := id HO.out
  clear hwf
  go_enter Try.func17, Try.ntmps17
  go_wp2_with fail
  refine HT.out.mono ?_
  rintro e w1 ⟨⟨b, rfl, hb0, hc⟩, hb1⟩
  go_wp2_with fail
  have hba : Below w1.heap.size w1 (w1.alloc (.cells #[.map (some b)] 64)) := (Below.refl _ _).alloc (Nat.le_refl _) _
  have hbox := Box.new w1 #[.map (some b)] 64
  have hc2 := hc.next hba
  have hlt := hc.lt
  refine (all_any _ out _ ((HO.out.below (hb1.trans (hba.mono hb1.size)) (Nat.le_refl _)).widen (Nat.le_refl _) (by have := hb1.size; simp; omega)) hx).mono ?_
  rintro e w2 ⟨⟨v2, rfl, hv2⟩, hb2⟩
  replace hbox := hbox.next hb2
  replace hc2 := hc2.next hb2
  have hz := hb2.size
  have hz1 := hb1.size
  have hza : (w1.alloc (.cells #[.map (some b)] 64)).heap.size = w1.heap.size + 1 := by simp
  rw [hza] at hv2 hz
  go_wp2_with fail
  refine (del_any w1.heap.size b (w1.heap.size + 1) l v2 _ w2 hv2 (by rw [Hu.numb_length]; exact hx) (numb_wf hx) hbox hc2 (Nat.lt_succ_self _) (by omega) hz).mono ?_
  rintro e w3 ⟨⟨v3, rfl, hv3⟩, hb3⟩
  go_wp2_with fail
  go_ret
  exact ⟨⟨v3, rfl, hv3.widen (by omega) (Nat.le_refl _)⟩, hb1.trans ((hba.mono hz1).trans ((hb2.mono (by omega)).trans (hb3.mono (by omega))))⟩
end Go.Proofs.Ytmbilaepeekglaa
