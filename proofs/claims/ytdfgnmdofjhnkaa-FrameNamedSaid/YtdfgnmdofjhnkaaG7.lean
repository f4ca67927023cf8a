/- Lemmas, walks and contracts that the statements of this seat are proved by. -/
import Derived.Test.YtdfgnmdofjhnkaaG2
import Derived.Test.YtdfgnmdofjhnkaaG6
import Derived.Test.YtdfgnmdofjhnkaaG4
/- The document's functions of layer 1: Put, Puts, Text, Ints. -/
namespace Go.Proofs.Ytdfgnmdofjhnkaa
open Go.RowKit

/-- 'string([]byte{x})'. -/
theorem run_byte_string (w : World) (c : UInt8) : (convert 53 9 (.slice (some ⟨w.heap.size, 0, none⟩) 1 1)).run Try.prog (w.alloc (.cells #[.int .u8 (c.toNat : Int)] 5)) = .ok (.string ⟨[c].toArray⟩) (w.alloc (.cells #[.int .u8 (c.toNat : Int)] 5)) := by
  refine run_bytes_own _ _ 5 Try.underlying53 Try.underlying5 Try.underlying9 w.heap.size _ [c] ?_ (by simp)
  exact ⟨by simp, .inr ⟨w.heap.size, 1, _, rfl, Nat.le_refl _, heap_alloc_new _ _, Nat.le_refl _, by unfold maxLen; omega, rfl, rfl⟩⟩

theorem run_byte_string' (w : World) (c : UInt8) (x : Int) (hx : (c.toNat : Int) = x) : (convert 53 9 (.slice (some ⟨w.heap.size, 0, none⟩) 1 1)).run Try.prog (w.alloc (.cells #[.int .u8 x] 5)) = .ok (.string ⟨[c].toArray⟩) (w.alloc (.cells #[.int .u8 x] 5)) := by
  subst hx; exact run_byte_string w c

def RPutRel (n : Int) (w : World) (v b : Value) (wr : World) : Prop :=
  ∃ (m k : Nat) (l : List UInt8), v = .int .i64 m ∧ b = .string ⟨l.toArray⟩ ∧ m < 128 ^ (k + 1) ∧ m ≤ 2147483647 ∧ l.length + k ≤ 4 ∧ l ++ W.encF k m = W.put n ∧ Below w.heap.size w wr

theorem rput_round {n : Int} {w w1 : World} {l : List UInt8} {m k : Nat} (hlt : ¬ m < 128)
    (hm' : m ≤ 2147483647) (hm : m < 128 ^ (k + 1)) (hk : l.length + k ≤ 4) (hl : l ++ W.encF k m = W.put n) (hb : Below w.heap.size w w1) : RPutRel n w (.int .i64 ((m : Int) / 128)) (.string (⟨l.toArray⟩ ++ ⟨[UInt8.ofNat (m % 128 + 128)].toArray⟩)) w1 := by
  cases k with
  | zero => omega
  | succ k =>
    refine ⟨m / 128, k, l ++ [UInt8.ofNat (m % 128 + 128)], by congr 1, by rw [ByteArray.mk_append_mk], ?_, by omega, by simp; omega, ?_, hb⟩
    · rw [Nat.pow_succ] at hm; omega
    · rw [← hl, W.encF, if_neg hlt]; simp

set_option maxRecDepth 100000 in
set_option maxHeartbeats 400000 in
theorem rput_any (n : Int) (w : World) : Calls Try.prog 69 #[.int .i64 n] w fun x w' => x = .returned (.string ⟨(W.put n).toArray⟩) ∧ Below w.heap.size w w' := by
  go_enter Try.func69, Try.ntmps69
  go_wp2_with fail
  refine (cut_any _ _).mono ?_
  rintro y w1 ⟨rfl, rfl⟩
  go_wp2_with fail
  go_loopw [0, 3] (fun v b wr => RPutRel n w v b wr) (fun v _ _ => (intOf v).toNat)
  case atStart => exact ⟨W.cl n, 4, [], by congr 1; unfold W.cl; omega, rfl, by have := W.cl_le n; omega, W.cl_le n, by simp, rfl, Below.refl _ _⟩
  case round =>
    obtain ⟨m, k, l, rfl, rfl, hm, hm', hk, hl, hb⟩ := hrel
    have HL := Lib.hid hl; clear hl
    have HM := Lib.hid hm; clear hm
    have hll : l.length ≤ 4 := by omega
    by_cases hlt : m < 128
    · have hcv := fun w => run_byte_string' w (UInt8.ofNat m) m (by simp; omega)
      go_wp2_with fail
      go_ret
      refine ⟨?_, hb.alloc hb.size _⟩
      rw [W.put_end n l m k hlt HL.out]
      exact congrArg (fun z => Ending.returned (.string z)) (ByteArray.mk_append_mk _ _)
    · obtain ⟨c, hc⟩ : ∃ c, c = UInt8.ofNat (m % 128 + 128) := ⟨_, rfl⟩
      have hcv := fun w => run_byte_string' w c (128 + (m : Int) % 128) (by rw [hc]; simp; omega)
      have HC := Lib.hid hc; clear hc
      go_wp2_with fail
      go_roundw
      case rel => rw [HC.out]; exact rput_round hlt hm' HM.out hk HL.out (hb.alloc hb.size _)
      case measure => simp [intOf]; omega

set_option maxHeartbeats 400000 in
theorem rtext_any (s : ByteArray) (w : World) (hs : s.size ≤ 1000000000) : Calls Try.prog 70 #[.string s] w
    fun x w' => x = .returned (.string ⟨(W.text s.data.toList).toArray⟩) ∧ Below w.heap.size w w' := by
  have hl := (W.put_len s.size).1
  generalize hp : W.put s.size = p at hl
  have HP := Lib.hid hp; clear hp
  go_enter Try.func70, Try.ntmps70
  go_wp2_with fail
  refine (rput_any _ _).mono ?_
  rintro y w1 ⟨rfl, hb⟩
  rw [HP.out]
  go_wp2_with fail
  go_ret
  refine ⟨?_, hb⟩
  rw [← HP.out]
  exact congrArg (fun z => Ending.returned (.string z)) (app_text s)

set_option maxHeartbeats 400000 in
theorem rputs_any (v : Value) (xs : List Int) (w : World) (h : IsInts w w.heap.size v xs) (hs : xs.length ≤ 1000000) : Calls Try.prog 44 #[v] w
    fun x w' => x = .returned (.string ⟨(W.puts xs).toArray⟩) ∧ Below w.heap.size w w' := by
  obtain ⟨A, c, rfl, _, _, hc⟩ := h
  go_enter Try.func44, Try.ntmps44
  go_wp2_with fail
  go_loopg [4, 3] xs.length (fun k i s wr => PutsRel xs w k i s wr)
  case atStart => exact ⟨0, [], rfl, by omega, by omega, rfl, rfl, Below.refl _ _⟩
  case round =>
    obtain ⟨j, l, rfl, hj, hk, rfl, hl, hb⟩ := hrel
    have hll : l.length ≤ 5000000 := by rw [hl]; have := W.puts_len (xs.take j); simp at this; omega
    have HL := Lib.hid hl; clear hl
    have HK := Lib.hid hk; clear hk
    by_cases hlt : j < xs.length
    · obtain ⟨g, o, rfl, hg, hcell⟩ := hc (by rintro rfl; simp at hlt)
      have hcj : wr.cell? ⟨g, o + j, none⟩ = some (.int .i64 (xs.getD j 0)) := (hb.cell hg).trans (hcell j hlt)
      generalize hx : xs.getD j 0 = x at hcj
      have hpl := (W.put_len x).1
      generalize hp : W.put x = p at hpl
      have HX := Lib.hid hx; clear hx
      have HP := Lib.hid hp; clear hp
      clear hcell hc
      go_wp2_with fail
      refine (rput_any _ _).mono ?_
      rintro y w1 ⟨rfl, hb1⟩
      rw [HP.out]
      go_wp2_with fail
      go_roundg (xs.length - (j + 1))
      case rel => exact puts_round hlt hb hb1 HL.out HX.out HP.out
      case measure => have := HK.out; omega
    · clear hc
      go_wp2_with fail
      go_ret
      refine ⟨?_, hb⟩
      have := HL.out
      rw [List.take_of_length_le (by omega)] at this
      rw [← this]
      rfl

/-- Ints, of lists of unlike lengths, and of like ones. -/
theorem ints_apart (v u : Value) (xs ys : List Int) (w : World) (h : IsInts w w.heap.size v xs) (h' : IsInts w w.heap.size u ys) (hne : xs.length ≠ ys.length) (_hx : xs.length ≤ 1000000) (_hy : ys.length ≤ 1000000) :
    Calls Try.prog 28 #[v, u] w fun x w' => x = .returned (.bool false) ∧ Below w.heap.size w w' := by
  obtain ⟨A, c, rfl, _, _, hc⟩ := h
  obtain ⟨A', c', rfl, _, _, hc'⟩ := h'
  have e : (((xs.length : Nat) : Int) != ((ys.length : Nat) : Int)) = true := by rw [bne_iff_ne]; omega
  clear hc hc' hne
  go_enter Try.func28, Try.ntmps28
  go_wp2_with fail
  go_ret
  exact ⟨rfl, Below.refl _ _⟩

set_option maxHeartbeats 400000 in
theorem ints_like (v u : Value) (xs ys : List Int) (w : World) (h : IsInts w w.heap.size v xs) (h' : IsInts w w.heap.size u ys) (hne : xs.length = ys.length) (hx : xs.length ≤ 1000000) :
    Calls Try.prog 28 #[v, u] w fun x w' => x = .returned (.bool (decide (xs = ys))) ∧ Below w.heap.size w w' := by
  obtain ⟨A, c, rfl, _, _, hc⟩ := h
  obtain ⟨A', c', rfl, _, _, hc'⟩ := h'
  rw [← hne] at hc' ⊢
  have HN := Lib.hid hne; clear hne
  generalize hd : decide (xs = ys) = d
  have HD := Lib.hid hd; clear hd
  go_enter Try.func28, Try.ntmps28
  go_wp2_with fail
  go_loopg [5] xs.length (fun k i wr => ∃ j : Nat, i = .int .i64 (j : Int) ∧ j ≤ xs.length ∧ k = xs.length - j ∧ xs.take j = ys.take j ∧ Below w.heap.size w wr)
  case atStart => exact ⟨0, rfl, by omega, by omega, rfl, Below.refl _ _⟩
  case round =>
    obtain ⟨j, rfl, hj, hk, hl, hb⟩ := hrel
    have HL := Lib.hid hl; clear hl
    have HK := Lib.hid hk; clear hk
    by_cases hlt : j < xs.length
    · obtain ⟨g, o, rfl, hg, hcell⟩ := hc (by rintro rfl; simp at hlt)
      obtain ⟨g', o', rfl, hg', hcell'⟩ := hc' (by rintro rfl; have := HN.out; simp at this; rw [this] at hlt; simp at hlt)
      have hcj : wr.cell? ⟨g, o + j, none⟩ = some (.int .i64 (xs.getD j 0)) := (hb.cell hg).trans (hcell j hlt)
      have hcj' : wr.cell? ⟨g', o' + j, none⟩ = some (.int .i64 (ys.getD j 0)) := (hb.cell hg').trans (hcell' j (by have := HN.out; omega))
      obtain ⟨x, hx⟩ : ∃ x, x = xs.getD j 0 := ⟨_, rfl⟩
      obtain ⟨y, hy⟩ : ∃ y, y = ys.getD j 0 := ⟨_, rfl⟩
      rw [← hx] at hcj
      rw [← hy] at hcj'
      have HX := Lib.hid hx; clear hx
      have HY := Lib.hid hy; clear hy
      clear hcell hcell' hc hc'
      by_cases hxy : x = y
      · subst hxy
        have hbn : (x != x) = false := by simp
        go_wp2_with fail
        go_quiet (fail)
        go_wp2_with fail
        go_roundg (xs.length - (j + 1))
        case rel => exact ⟨j + 1, by simp, by omega, rfl, W.like_more HN.out hlt HL.out HX.out HY.out, below_drewN hb _⟩
        case measure => have := HK.out; omega
      · have HXY := Lib.hid hxy
        have hbn : (x != y) = true := by simpa using hxy
        clear hxy
        go_wp2_with fail
        go_quiet (fail)
        go_wp2_with fail
        go_ret
        refine ⟨?_, below_drewN hb _⟩
        rw [← HD.out, W.like_not HX.out HY.out HXY.out]
        rfl
    · clear hc hc'
      go_wp2_with fail
      go_ret
      refine ⟨?_, hb⟩
      rw [← HD.out, W.like_all HN.out hlt HL.out]
      rfl

theorem ints_any (v u : Value) (xs ys : List Int) (w : World) (h : IsInts w w.heap.size v xs) (h' : IsInts w w.heap.size u ys) (hx : xs.length ≤ 1000000) (hy : ys.length ≤ 1000000) :
    Calls Try.prog 28 #[v, u] w fun x w' => x = .returned (.bool (decide (xs = ys))) ∧ Below w.heap.size w w' := by
  by_cases hne : xs.length = ys.length
  · exact ints_like v u xs ys w h h' hne hx
  · rw [show decide (xs = ys) = false from decide_eq_false (by rintro rfl; exact hne rfl)]
    exact ints_apart v u xs ys w h h' hne hx hy
end Go.Proofs.Ytdfgnmdofjhnkaa

/- The document's Numbers and Encode, for pieces. -/
namespace Go.Proofs.Ytdfgnmdofjhnkaa
open Go.RowKit

set_option maxRecDepth 100000 in
set_option maxHeartbeats 8000000 in
theorem numbers_any (v : Value) (p : Pc.Piece) (w : World) (h : PieceIs false w 0 w.heap.size v p) (hsm : Pc.small p) : Calls Try.prog 29 #[v] w
    fun x w' => (∃ v', x = .returned v' ∧ OwnInts 3 w.heap.size w' v' (Pc.nums p)) ∧ Below w.heap.size w w' := by
  obtain ⟨n, s, t, xs, ms, os⟩ := p
  obtain ⟨a, b, c, rfl, ⟨A1, c1, rfl, l1, m1, h1⟩, ⟨A2, c2, rfl, l2, m2, h2⟩, ⟨A3, c3, rfl, l3, m3, h3⟩⟩ := h
  dsimp only at l1 l2 l3 h1 h2 h3
  have hn : Pc.nums ⟨n, s, t, xs, ms, os⟩ = ([n, s, t, (xs.length : Int)] ++ xs ++ [(ms.length : Int)] ++ Pc.numsIn ms) ++ [(os.length : Int)] ++ Pc.numsOut os := rfl
  generalize Pc.nums ⟨n, s, t, xs, ms, os⟩ = nn at hn ⊢
  have HN := Lib.hid hn; clear hn
  have hb0 : Below w.heap.size w (w.alloc (.cells #[.int .i64 n, .int .i64 s, .int .i64 t, .slice A1 xs.length c1, .slice A2 ms.length c2, .slice A3 os.length c3] 32)) := (Below.refl _ _).alloc (Nat.le_refl _) _
  unfold maxLen at m1 m2 m3
  obtain ⟨q1, q2, q3, q4, q5⟩ := hsm
  dsimp only at q1 q2 q3 q4 q5
  have hni : ∀ j, (Pc.numsIn (ms.take j)).length ≤ 5005 := fun j => by
    have := Pc.numsIn_len (ms.take j) (fun x hx => q4 x (List.mem_of_mem_take hx))
    have : (ms.take j).length ≤ 5 := by simp; omega
    omega
  have hno : ∀ j, (Pc.numsOut (os.take j)).length ≤ 2505 := fun j => by
    have := Pc.numsOut_len (os.take j) (fun x hx => q5 x (List.mem_of_mem_take hx))
    have : (os.take j).length ≤ 5 := by simp; omega
    omega
  have HNI := Lib.hid hni; clear hni
  have HNO := Lib.hid hno; clear hno
  have HQ4 := Lib.hid q4; clear q4
  have HQ5 := Lib.hid q5; clear q5
  obtain ⟨W, hW⟩ : ∃ W, W = w.alloc (.cells #[.int .i64 n, .int .i64 s, .int .i64 t, .slice A1 xs.length c1, .slice A2 ms.length c2, .slice A3 os.length c3] 32) := ⟨_, rfl⟩
  have hsz : W.heap.size = w.heap.size + 1 := by rw [hW]; simp
  have k0 : W.cell? ⟨w.heap.size, 0, none⟩ = some (.int .i64 n) := by rw [hW]; simp [go_sem]
  have k1 : W.cell? ⟨w.heap.size, 1, none⟩ = some (.int .i64 s) := by rw [hW]; simp [go_sem]
  have k2 : W.cell? ⟨w.heap.size, 2, none⟩ = some (.int .i64 t) := by rw [hW]; simp [go_sem]
  have k3 : W.cell? ⟨w.heap.size, 3, none⟩ = some (.slice A1 xs.length c1) := by rw [hW]; simp [go_sem]
  have k4 : W.cell? ⟨w.heap.size, 4, none⟩ = some (.slice A2 ms.length c2) := by rw [hW]; simp [go_sem]
  have k5 : W.cell? ⟨w.heap.size, 5, none⟩ = some (.slice A3 os.length c3) := by rw [hW]; simp [go_sem]
  rw [← hW] at hb0
  have hlt0 : w.heap.size < W.heap.size := by omega
  replace h1 := h1.below hb0 (Nat.le_refl _)
  replace h2 := h2.below hb0 (Nat.le_refl _)
  replace h3 := h3.below hb0 (Nat.le_refl _)
  have HB0 := Lib.hid hb0; clear hb0
  have KK4 := Lib.hid k4; have KK5 := Lib.hid k5
  have hown : OwnInts 3 W.heap.size (W.alloc (.cells (ints [n, s, t, (xs.length : Int)]).toArray 3)) (.slice (some ⟨W.heap.size, 0, none⟩) 4 4) [n, s, t, (xs.length : Int)] :=
    OwnInts.lit _ _ _ (Nat.le_refl _) (by simp [maxLen])
  have hb2 : Below W.heap.size W (W.alloc (.cells (ints [n, s, t, (xs.length : Int)]).toArray 3)) := (Below.refl _ _).alloc (Nat.le_refl _) _
  have h1w := h1.below hb2 (by omega)
  have HB2 := Lib.hid hb2; clear hb2
  have HSZ := Lib.hid hsz; clear hsz
  rw [hW] at hown h1w
  simp only [World.size_alloc] at hown
  have HOWN := Lib.hid hown; clear hown
  have H1W := Lib.hid h1w; clear h1w
  have HW := Lib.hid hW; clear hW
  clear h1 k0 k1 k2 k3 k4 k5
  go_enter Try.func29, Try.ntmps29
  go_wp2_with (first | (at_builtin; refine wpList_intsS xs rfl (.tmp 17) (.tmp 19) 22 rfl _ 3 Try.infoInt Try.underlying22 _ _ rfl HOWN.out _ _ rfl H1W.out (by simp; omega) (by simp) ?_; intro v3 w3 hown3 hb3; rw [← HSZ.out] at hown3; rw [← HW.out, ← HSZ.out] at hb3; have hb3w := HB2.out.trans hb3; clear hb3; have k4' := (hb3w.cell (p := ⟨w.heap.size, 4, none⟩) hlt0).trans KK4.out; have hs3 := hb3w.size; have hn3 : ([n, s, t, (xs.length : Int)] ++ xs).length ≤ 9 := (by simp; omega); generalize hacc : [n, s, t, (xs.length : Int)] ++ xs = a1 at hown3 hn3; have HA1 := Lib.hid hacc; clear hacc H1W HOWN HB2) | (at_builtin; refine wpList_intsB [(ms.length : Int)] rfl (.tmp 21) (.tmp 25) 22 rfl W.heap.size 3 Try.infoInt Try.underlying22 _ _ rfl hown3 1 _ rfl (by simp) (by simp; omega) hs3 ?_; intro v4 w4 hown4 hb4; have hb4w := hb3w.trans hb4; clear hb4 hb3w k4'; have hs4 := hb4w.size; have hn4 : (a1 ++ [(ms.length : Int)]).length ≤ 10 := (by simp; omega); generalize hacc : a1 ++ [(ms.length : Int)] = a2 at hown4 hn4; have HA2 := Lib.hid hacc; clear hacc hown3 hn3 hs3))
  go_loopg [3, 4, 5] ms.length (fun k v i _ wr => EncRel a2 (fun j => Pc.numsIn (ms.take j)) ms.length W.heap.size W k v i wr)
  case atStart => exact ⟨0, a2, rfl, by omega, by omega, hown4, by simp [Pc.numsIn], by omega, hb4w⟩
  case round =>
    clear hb4w hs4 hown4
    obtain ⟨j, acc, rfl, hj, hk, hown, hacc, hal, hb⟩ := hrel
    dsimp only at hacc
    have HK := Lib.hid hk; clear hk
    have hsz := hb.size
    have HACC := Lib.hid hacc; clear hacc
    have k4' := (hb.cell (p := ⟨w.heap.size, 4, none⟩) hlt0).trans KK4.out
    by_cases hlt : j < ms.length
    · obtain ⟨x, hx⟩ := Pc.get_at hlt
      obtain ⟨g, o, vx, rfl, _, hg, c0, ⟨Ax, cx, rfl, lx, mx, hxa⟩⟩ := (h2.below hb (by omega)).row hx
      have hg1 : g < W.heap.size := by omega
      have hxl := HQ4.out x (List.mem_of_getElem? hx)
      have hal2 : acc.length ≤ 6000 := by rw [HACC.out]; have := HNI.out j; simp; omega
      have HX := Lib.hid hx; clear hx h2 h3
      have CC0 := Lib.hid c0
      unfold maxLen at mx
      go_wp2_with (at_builtin; refine wpList_intsB [(x.length : Int)] rfl (.tmp 34) (.tmp 41) 22 rfl W.heap.size 3 Try.infoInt Try.underlying22 _ _ rfl hown 1 _ rfl (by simp) (by simp; omega) hsz ?_; intro v5 w5 hown5 hb5; have hb5w := hb.trans hb5; clear k4'; have k4' := (hb5w.cell (p := ⟨w.heap.size, 4, none⟩) hlt0).trans KK4.out; clear c0; have c0 : w5.cell? ⟨g, o + j, none⟩ = some (.slice Ax x.length cx) := (hb5.cell hg1).trans CC0.out; have hs5 := hb5w.size)
      replace hxa := hxa.below hb5 (by omega)
      clear hsz k4' CC0 hb hb5
      have CC0 := Lib.hid c0; clear c0
      obtain ⟨wo, rfl⟩ : ∃ wo : World, wo = w5 := ⟨_, rfl⟩
      go_loopg [3, 5] x.length (fun k v i wr => EncRel (acc ++ [(x.length : Int)]) (fun j => Pc.pairs (x.take j)) x.length W.heap.size wo k v i wr)
      case atStart => exact ⟨0, _, rfl, by omega, by omega, hown5, by simp [Pc.pairs], by simp; omega, Below.refl _ _⟩
      case round =>
        clear hown5
        obtain ⟨j2, acc2, rfl, hj2, hk2, hown2, hacc2, hal3, hb2⟩ := hrel
        dsimp only at hacc2
        have HK2 := Lib.hid hk2; clear hk2
        have HACC2 := Lib.hid hacc2; clear hacc2
        have hbw2 := hb5w.trans hb2
        have hs2 := hbw2.size
        have k4' := (hbw2.cell (p := ⟨w.heap.size, 4, none⟩) hlt0).trans KK4.out
        have c0 : wr.cell? ⟨g, o + j, none⟩ = some (.slice Ax x.length cx) := (hb2.cell hg1).trans CC0.out
        by_cases hlt2 : j2 < x.length
        · obtain ⟨⟨sq, lt⟩, hm⟩ := Pc.get_at hlt2
          obtain ⟨gx, ox, rfl, _, hgx, d0, d1⟩ := (hxa.below hb2 (by omega)).msg hm
          dsimp only at d0 d1
          have HM := Lib.hid hm; clear hm hxa
          have hgx1 : gx < W.heap.size := by omega
          have DD1 := Lib.hid d1
          have CC1 := Lib.hid c0
          have hal4 : acc2.length ≤ 8000 := by rw [HACC2.out]; have := Pc.pairs_len (x.take j2); have : (x.take j2).length ≤ 500 := (by simp; omega); simp at *; omega
          go_wp2_with (first | (at_builtin; refine wpList_intsB [sq] rfl (.tmp 53) (.tmp 63) 22 rfl W.heap.size 3 Try.infoInt Try.underlying22 _ _ rfl hown2 1 _ rfl (by simp) (by simp; omega) hs2 ?_; intro v6 w6 hown6 hb6; have hb6w := hb2.trans hb6; clear k4' c0 d0 d1; have k4' := ((hb5w.trans hb6w).cell (p := ⟨w.heap.size, 4, none⟩) hlt0).trans KK4.out; have c0 : w6.cell? ⟨g, o + j, none⟩ = some (.slice (some ⟨gx, ox, none⟩) x.length cx) := (hb6.cell hg1).trans CC1.out; have d1 : w6.cell? ⟨gx, ox + j2 * 2 + 1, none⟩ = some (.int .i64 lt) := (hb6.cell hgx1).trans DD1.out; have hs6 := (hb5w.trans hb6w).size) | (at_builtin; refine wpList_intsB [lt] rfl (.tmp 65) (.tmp 75) 22 rfl W.heap.size 3 Try.infoInt Try.underlying22 _ _ rfl hown6 1 _ rfl (by simp) (by simp; omega) hs6 ?_; intro v7 w7 hown7 hb7))
          go_roundg (x.length - (j2 + 1))
          case rel => exact ⟨j2 + 1, _, by simp, by omega, rfl, hown7, by dsimp only; rw [HACC2.out, Pc.take_next HM.out, Pc.pairs_snoc]; simp, by simp; omega, hb6w.trans hb7⟩
          case measure => have := HK2.out; omega
        · go_wp2_with fail
          go_roundg (ms.length - (j + 1))
          case rel =>
            refine ⟨j + 1, acc2, by simp, by omega, rfl, hown2, ?_, hal3, hbw2⟩
            dsimp only
            rw [HACC2.out, HACC.out, Pc.take_next HX.out, Pc.numsIn_snoc, show x.take j2 = x from List.take_of_length_le (by omega)]
            simp
          case measure => have := HK.out; omega
    · have k5' := (hb.cell (p := ⟨w.heap.size, 5, none⟩) hlt0).trans KK5.out
      have hal2 : acc.length ≤ 6000 := by rw [HACC.out]; have := HNI.out j; simp; omega
      have ha3 : acc = a2 ++ Pc.numsIn ms := by rw [HACC.out, List.take_of_length_le (by omega)]
      have HA3 := Lib.hid ha3; clear ha3 HACC
      clear h2
      go_wp2_with (at_builtin; refine wpList_intsB [(os.length : Int)] rfl (.tmp 77) (.tmp 81) 22 rfl W.heap.size 3 Try.infoInt Try.underlying22 _ _ rfl hown 1 _ rfl (by simp) (by simp; omega) hsz ?_; intro v5 w5 hown5 hb5; have hb5w := hb.trans hb5; clear hb k5'; have k5' := (hb5w.cell (p := ⟨w.heap.size, 5, none⟩) hlt0).trans KK5.out; have hs5 := hb5w.size)
      have hal5 : (acc ++ [(os.length : Int)]).length ≤ 6001 := by simp; omega
      generalize hacc5 : acc ++ [(os.length : Int)] = a5 at hown5 hal5
      have HA5 := Lib.hid hacc5; clear hacc5
      clear k5' hb5 hsz hlt hj HK hown
      go_loopg [3, 6] os.length (fun k v i wr => EncRel a5 (fun j => Pc.numsOut (os.take j)) os.length W.heap.size W k v i wr)
      case atStart => exact ⟨0, a5, rfl, by omega, by omega, hown5, by simp [Pc.numsOut], by omega, hb5w⟩
      case round =>
        clear hb5w hs5 hown5
        obtain ⟨j, acc6, rfl, hj, hk, hown, hacc, hal, hb⟩ := hrel
        dsimp only at hacc
        have HK := Lib.hid hk; clear hk
        have hsz := hb.size
        have HACC := Lib.hid hacc; clear hacc
        have k5' := (hb.cell (p := ⟨w.heap.size, 5, none⟩) hlt0).trans KK5.out
        by_cases hlt : j < os.length
        · obtain ⟨x, hx⟩ := Pc.get_at hlt
          obtain ⟨g, o, vx, rfl, _, hg, c0, ⟨Ax, cx, rfl, lx, mx, hxa⟩⟩ := (h3.below hb (by omega)).row hx
          have hg1 : g < W.heap.size := by omega
          have hxl := HQ5.out x (List.mem_of_getElem? hx)
          have hal6 : acc6.length ≤ 8510 := by rw [HACC.out]; have := HNO.out j; simp; omega
          have HX := Lib.hid hx; clear hx h3
          have CC0 := Lib.hid c0
          unfold maxLen at mx
          go_wp2_with (first | (at_builtin; refine wpList_intsB [(x.length : Int)] rfl (.tmp 90) (.tmp 97) 22 rfl W.heap.size 3 Try.infoInt Try.underlying22 _ _ rfl hown 1 _ rfl (by simp) (by simp; omega) hsz ?_; intro v7 w7 hown7 hb7; have hxa7 := hxa.below hb7 (by omega); have hb7w := hb.trans hb7; have hs7 := hb7w.size; clear hb hxa k5' c0; have k5' := (hb7w.cell (p := ⟨w.heap.size, 5, none⟩) hlt0).trans KK5.out; have c0 : w7.cell? ⟨g, o + j, none⟩ = some (.slice Ax x.length cx) := (hb7.cell hg1).trans CC0.out) | (at_builtin; refine wpList_intsS x rfl (.tmp 99) (.tmp 104) 22 rfl W.heap.size 3 Try.infoInt Try.underlying22 _ _ rfl hown7 _ _ rfl hxa7 (by simp; omega) hs7 ?_; intro v8 w8 hown8 hb8))
          go_roundg (os.length - (j + 1))
          case rel =>
            refine ⟨j + 1, _, by simp, by omega, rfl, hown8, by dsimp only; rw [HACC.out, Pc.take_next HX.out, Pc.numsOut_snoc]; simp, ?_, hb7w.trans hb8⟩
            rw [HACC.out]; have := HNO.out j; simp; omega
          case measure => have := HK.out; omega
        · have hfin : acc6 = nn := by rw [HACC.out, List.take_of_length_le (by omega), ← HA5.out, HA3.out, ← HA2.out, ← HA1.out, HN.out]
          have HFIN := Lib.hid hfin; clear hfin
          go_wp2_with fail
          go_ret
          refine ⟨⟨_, rfl, ?_⟩, HB0.out.trans (hb.mono (by omega))⟩
          rw [← HFIN.out]
          exact own_base hown (by omega)

theorem rencode_any (v : Value) (p : Pc.Piece) (w : World) (h : PieceIs false w 0 w.heap.size v p) : Calls Try.prog 17 #[v] w
    fun x w' => x = .returned (.tuple #[.string ⟨(Pc.enc p).toArray⟩, .int .i64 (Pc.err p)]) ∧ Below w.heap.size w w' := by
  unfold Pc.enc Pc.err
  have hb0 : Below w.heap.size w (w.alloc (.cells v.cells 32)) := (Below.refl _ _).alloc (Nat.le_refl _) _
  have hp0 := (h.below hb0 (Nat.le_refl _))
  have hR := rright_any v p _ (hp0.widen (Nat.le_refl _) hb0.size)
  cases hh : Pc.right p
  · rw [hh] at hR
    obtain ⟨a, b, c, rfl, h1, h2, h3⟩ := h
    have HR := Lib.hid hR; clear hR hh h1 h2 h3 hp0
    go_enter Try.func17, Try.ntmps17
    go_wp2_with fail
    refine (HR.out).mono ?_
    rintro e w1 ⟨rfl, hb1⟩
    go_wp2_with fail
    go_ret2
    exact ⟨rfl, hb0.trans (hb1.mono (by simp))⟩
  · rw [hh] at hR
    have hsm := Pc.small_of hh
    have hl := Pc.nums_len hsm
    have hN := fun w h => numbers_any v p w h hsm
    have HP0 := Lib.hid hp0; clear hp0
    generalize Pc.nums p = nn at hl hN ⊢
    have HN := Lib.hid hN; clear hN
    have HR := Lib.hid hR; clear hR hh
    obtain ⟨a, b, c, rfl, h1, h2, h3⟩ := h
    clear h1 h2 h3 hsm
    dsimp only [Value.cells] at hb0
    go_enter Try.func17, Try.ntmps17
    go_wp2_with fail
    refine (HR.out).mono ?_
    rintro e w1 ⟨rfl, hb1⟩
    have hp1 := (HP0.out.below hb1 (by simp)).widen (Nat.le_refl 0) (show w.heap.size ≤ w1.heap.size by have := hb1.size; simp at this; omega)
    replace hb1 := hb1.mono (B' := w.heap.size + 1) (by simp)
    have k0 := (hb1.cell (p := ⟨w.heap.size, 0, none⟩) (by simp)).trans (World.cell?_alloc_new w _ _ _)
    have k1 := (hb1.cell (p := ⟨w.heap.size, 1, none⟩) (by simp)).trans (World.cell?_alloc_new w _ _ _)
    have k2 := (hb1.cell (p := ⟨w.heap.size, 2, none⟩) (by simp)).trans (World.cell?_alloc_new w _ _ _)
    have k3 := (hb1.cell (p := ⟨w.heap.size, 3, none⟩) (by simp)).trans (World.cell?_alloc_new w _ _ _)
    have k4 := (hb1.cell (p := ⟨w.heap.size, 4, none⟩) (by simp)).trans (World.cell?_alloc_new w _ _ _)
    have k5 := (hb1.cell (p := ⟨w.heap.size, 5, none⟩) (by simp)).trans (World.cell?_alloc_new w _ _ _)
    have HP1 := Lib.hid hp1; clear hp1
    simp only [List.getElem?_toArray, List.getElem?_cons_zero, List.getElem?_cons_succ, Value.cells] at k0 k1 k2 k3 k4 k5
    go_wp2_with fail
    refine (HN.out _ HP1.out).mono ?_
    rintro e w2 ⟨⟨v2, rfl, hown⟩, hb2⟩
    have hin := IsInts.of_slice (hown.slice (lo := 0) (Nat.zero_le _) (Nat.le_refl _))
    clear k0 k1 k2 k3 k4 k5
    go_wp2_with fail
    refine (rputs_any _ _ _ hin (by omega)).mono ?_
    rintro e w3 ⟨rfl, hb3⟩
    go_wp2_with fail
    go_ret2
    exact ⟨rfl, (((hb0.trans (hb1.mono (by omega))).trans (hb2.mono (by have := hb1.size; simp at this; omega))).trans (hb3.mono (by have := hb1.size; have := hb2.size; simp at *; omega)))⟩
end Go.Proofs.Ytdfgnmdofjhnkaa

/- The document's functions of layer 1: Get, All, Take. -/
namespace Go.Proofs.Ytdfgnmdofjhnkaa
open Go.RowKit

def RGetRel (l : List UInt8) (k : Nat) (vn vt vi : Value) : Prop :=
  ∃ i n t : Nat, i < 5 ∧ k = 5 - i ∧ vn = .int .i64 (n : Int) ∧ vt = .int .i64 (t : Int) ∧ vi = .int .i64 (i : Int) ∧ t = 128 ^ i ∧ n ≤ 2147483647 ∧ W.rd (l.drop i) i n = W.rd l 0 0

theorem pow_le {i t : Nat} (h : t = 128 ^ i) (hi : i < 5) : 1 ≤ t ∧ t ≤ 268435456 := by
  have h5 : i = 0 ∨ i = 1 ∨ i = 2 ∨ i = 3 ∨ i = 4 := by omega
  rcases h5 with rfl | rfl | rfl | rfl | rfl <;> simp_all
theorem mul_val {x t p n m : Nat} (ht : t ≤ 268435456) (hn : n ≤ 2147483647) (hp : p = x % 128 * t) (hm : m = n + p) :
    wrap64 ((x : Int) % 128 * (t : Int)) = (p : Int) ∧ wrap64 ((n : Int) + (p : Int)) = (m : Int) ∧ m ≤ 40000000000 := by
  have h1 : x % 128 * t ≤ 127 * 268435456 := Nat.mul_le_mul (by omega) ht
  have e : (x : Int) % 128 * (t : Int) = ((x % 128 * t : Nat) : Int) := by simp
  rw [e, ← hp]
  rw [← hp] at h1
  clear hp e
  subst hm
  refine ⟨IntWalk.wrap64_in _ ⟨by omega, by omega⟩, ?_, by omega⟩
  rw [IntWalk.wrap64_in _ ⟨by omega, by omega⟩]; omega

set_option maxRecDepth 100000 in
set_option maxHeartbeats 800000 in
theorem rget_any (s : ByteArray) (at_ : Nat) (w : World) (hs : s.size ≤ 1000000000) (h : at_ ≤ s.size) : Calls Try.prog 42 #[.string s, .int .i64 at_] w
    fun x w' => x = getEnd at_ (W.rd (s.data.toList.drop at_) 0 0) ∧ w = w' := by
  generalize hl : s.data.toList.drop at_ = l
  have HL := Lib.hid hl; clear hl
  have d1 : decide (s.size < at_) = false := decide_eq_false (by omega)
  have d2 : decide ((at_ : Int) < 0) = false := decide_eq_false (by omega)
  go_enter Try.func42, Try.ntmps42
  go_wp2_with fail
  go_loopg [7, 8, 9] 5 (fun k vn vt vi wr => RGetRel l k vn vt vi ∧ w = wr)
  case atStart => exact ⟨⟨0, 0, 1, by omega, rfl, rfl, rfl, rfl, rfl, by omega, rfl⟩, rfl⟩
  case round =>
    obtain ⟨⟨i, n, t, hi, hk, rfl, rfl, rfl, ht, hn, hr⟩, rfl⟩ := hrel
    have htl := pow_le ht hi
    have HT := Lib.hid ht; clear ht
    have HR := Lib.hid hr; clear hr
    have HK := Lib.hid hk; clear hk
    by_cases hend : at_ + i < s.size
    · have hx : s[at_ + i].toNat < 256 := UInt8.toNat_lt _
      obtain ⟨x, hxe⟩ : ∃ x, x = s[at_ + i].toNat := ⟨_, rfl⟩
      have hx2 : x < 256 := by omega
      obtain ⟨p, hp⟩ : ∃ p, p = x % 128 * t := ⟨_, rfl⟩
      obtain ⟨m, hm⟩ : ∃ m, m = n + x % 128 * 128 ^ i := ⟨_, rfl⟩
      obtain ⟨hmul, hadd, hml⟩ := mul_val (m := m) htl.2 hn hp (by rw [hm, hp, HT.out])
      have HX := Lib.hid hxe
      have HM := Lib.hid hm
      have hr0 := rd_cons hend HL.out
      have HR0 := Lib.hid hr0
      have hxi : (s[at_ + i].toNat : Int) = (x : Int) := by rw [hxe]
      clear hxe hm hp hx hr0
      by_cases c1 : m ≤ 2147483647
      · by_cases c2 : x < 128
        · by_cases c4 : i = 0
          · have hi0 : i ≤ 0 := by omega
            have i4 : ((i : Int) == 4) = false := beq_eq_false_iff_ne.2 (by omega)
            clear c4
            by_cases c3 : 0 < x
            · have x0 : ((x : Int) == 0) = false := beq_eq_false_iff_ne.2 (by omega)
              go_wp2_with fail
              refine bodyPost_ret (results_tmp3 rfl _ _ _) rfl ⟨?_, rfl⟩
              rw [← HR.out, W.rd_ok HR0.out HX.out HM.out c1 c2 (.inl c3)]
              simp [getEnd, Int.add_assoc]
            · have x0 : ((x : Int) == 0) = true := beq_iff_eq.2 (by omega)
              go_wp2_with fail
              refine bodyPost_ret (results_tmp3 rfl _ _ _) rfl ⟨?_, rfl⟩
              rw [← HR.out, W.rd_ok HR0.out HX.out HM.out c1 c2 (.inr (by omega))]
              simp [getEnd, Int.add_assoc]
          · have hi0 : 0 < i := by omega
            clear c4
            obtain ⟨b, i4⟩ : ∃ b : Bool, ((i : Int) == 4) = b := ⟨_, rfl⟩
            by_cases c3 : 0 < x
            · have x0 : ((x : Int) == 0) = false := beq_eq_false_iff_ne.2 (by omega)
              cases b
              all_goals
                go_wp2_with fail
                refine bodyPost_ret (results_tmp3 rfl _ _ _) rfl ⟨?_, rfl⟩
                rw [← HR.out, W.rd_ok HR0.out HX.out HM.out c1 c2 (.inl c3)]
                simp [getEnd, Int.add_assoc]
            · have x0 : ((x : Int) == 0) = true := beq_iff_eq.2 (by omega)
              cases b
              all_goals
                go_wp2_with fail
                refine bodyPost_ret (results_tmp3 rfl _ _ _) rfl ⟨?_, rfl⟩
                rw [← HR.out, W.rd_form HR0.out HX.out HM.out c1 c2 (by omega)]
                rfl
        · have x0 : ((x : Int) == 0) = false := beq_eq_false_iff_ne.2 (by omega)
          by_cases c5 : i = 4
          · have i4 : ((i : Int) == 4) = true := beq_iff_eq.2 (by omega)
            clear c5
            go_wp2_with fail
            refine bodyPost_ret (results_tmp3 rfl _ _ _) rfl ⟨?_, rfl⟩
            rw [← HR.out, W.rd_big HR0.out HX.out HM.out (by have := beq_iff_eq.1 i4; omega)]
            rfl
          · have i4 : ((i : Int) == 4) = false := beq_eq_false_iff_ne.2 (by omega)
            have hi4 : i < 4 := by omega
            clear c5
            go_wp2_with fail
            go_roundg (gk - 1)
            case rel => exact ⟨⟨i + 1, m, t * 128, by omega, by have := HK.out; omega, rfl, by simp, by simp, by rw [HT.out, Nat.pow_succ], c1, by rw [← HR.out, W.rd_more HR0.out HX.out HM.out c1 c2 (by omega)]⟩, rfl⟩
            case measure => have := HK.out; omega
      · go_wp2_with fail
        refine bodyPost_ret (results_tmp3 rfl _ _ _) rfl ⟨?_, rfl⟩
        rw [← HR.out, W.rd_big HR0.out HX.out HM.out (by omega)]
        rfl
    · go_wp2_with fail
      refine bodyPost_ret (results_tmp3 rfl _ _ _) rfl ⟨?_, rfl⟩
      rw [← HR.out, rd_nil hend HL.out]
      rfl
end Go.Proofs.Ytdfgnmdofjhnkaa

/- The document's functions of layer 1: All, Take; a place that is none. -/
namespace Go.Proofs.Ytdfgnmdofjhnkaa
open Go.RowKit

theorem rget_bad (s : ByteArray) (at_ : Int) (w : World) (h : ¬ (0 ≤ at_ ∧ at_ ≤ s.size)) : Calls Try.prog 42 #[.string s, .int .i64 at_] w
    fun x w' => x = .returned (.tuple #[.int .i64 0, .int .i64 0, .int .i64 1]) ∧ w = w' := by
  by_cases h0 : 0 ≤ at_
  · have h1 : (s.size : Int) < at_ := by omega
    clear h
    go_enter Try.func42, Try.ntmps42
    go_wp2_with fail
    exact bodyPost_ret (results_tmp3 rfl _ _ _) rfl ⟨rfl, rfl⟩
  · have h1 : at_ < 0 := by omega
    clear h h0
    go_enter Try.func42, Try.ntmps42
    go_wp2_with fail
    exact bodyPost_ret (results_tmp3 rfl _ _ _) rfl ⟨rfl, rfl⟩

def RAllRel (l : List UInt8) (w : World) (k : Nat) (v b : Value) (wr : World) : Prop :=
  ∃ (at_ : Nat) (acc : List Nat), v = .int .i64 at_ ∧ at_ ≤ l.length ∧ k = l.length - at_ ∧ acc.length ≤ at_ ∧
    wr.ownsRow w.heap.size 3 1 b acc.length (i64s acc) ∧ W.all l = (W.all (l.drop at_)).pre acc ∧ Below w.heap.size w wr

theorem rall_start (l : List UInt8) (w : World) : RAllRel l w l.length (.int .i64 0) (.slice (some ⟨w.heap.size, 0, none⟩) 0 0) (w.alloc (.cells #[] 3)) :=
  ⟨0, [], rfl, by omega, by omega, by simp, ⟨by simp, .inr ⟨w.heap.size, 0, _, rfl, Nat.le_refl _, heap_alloc_new _ _, Nat.le_refl _, by unfold maxLen; omega, rfl, rfl⟩⟩, by simp [W.Alls.pre_nil], (Below.refl _ _).alloc (Nat.le_refl _) _⟩

theorem errno_pos : ∀ (l : List UInt8) (i n e : Nat), W.rd l i n = .bad e → 2 ≤ e ∧ e ≤ 5 := by
  intro l
  induction l with
  | nil => intro i n e h; simp [W.rd] at h; omega
  | cons c t ih =>
    intro i n e h
    simp only [W.rd] at h
    split at h
    · split at h
      · split at h
        · cases h
        · injection h; omega
      · exact ih _ _ _ h
    · injection h; omega

set_option maxRecDepth 100000 in
set_option maxHeartbeats 400000 in
theorem rall_any (s : ByteArray) (w : World) (hs : s.size ≤ 1000000000) : Calls Try.prog 27 #[.string s] w
    fun x w' => AllEnd w.heap.size (W.all s.data.toList) x w' ∧ Below w.heap.size w w' := by
  generalize hl : s.data.toList = l
  have hsz : s.size = l.length := by rw [← hl]; simp
  have HL := Lib.hid hl; clear hl
  have HS := Lib.hid hsz; clear hsz
  go_enter Try.func27, Try.ntmps27
  go_wp2_with fail
  go_loopg [5, 4] l.length (fun k v b wr => RAllRel l w k v b wr)
  case atStart => exact rall_start l w
  case round =>
    obtain ⟨at_, acc, rfl, ha, hk, hacc, hown, hr, hb⟩ := hrel
    have HR := Lib.hid hr; clear hr
    have HK := Lib.hid hk; clear hk
    have hs1 := hb.size
    by_cases hend : at_ < s.size
    · have hrd := fun w => rget_any s at_ w hs (by omega)
      rw [HL.out] at hrd
      generalize hg : W.rd (l.drop at_) 0 0 = g at hrd
      have HG := Lib.hid hg; clear hg
      have HRD := Lib.hid hrd; clear hrd
      cases g with
      | bad e =>
        have he := errno_pos _ _ _ _ HG.out
        have e0 : ((e : Int) != 0) = true := by rw [bne_iff_ne]; omega
        go_wp2_with fail
        refine (HRD.out _).mono ?_
        rintro y w1 ⟨rfl, rfl⟩
        simp only [getEnd]
        go_wp2_with fail
        go_ret2
        refine ⟨?_, hb⟩
        rw [HR.out, W.all_bad (by intro h; have := congrArg List.length h; have := HS.out; simp at *; omega) HG.out]
        rfl
      | ok n i =>
        have hp := W.rd_pos _ _ _ _ _ HG.out
        have hp2 : i + at_ ≤ l.length := by have := hp.2.1; simp at this; omega
        have hab : acc.length + 1 ≤ 1000000000 := by have := HS.out; omega
        have e0 : ((0 : Int) != 0) = false := rfl
        go_wp2_with fail
        refine (HRD.out _).mono ?_
        rintro y w1 ⟨rfl, rfl⟩
        simp only [getEnd]
        go_wp2_with (at_builtin; refine wpList_append1 rfl _ _ 22 rfl w.heap.size 3 Try.infoInt Try.underlying22 rfl _ _ _ rfl hown (.int .i64 (n : Int)) rfl rfl (by omega) (by omega) (by omega) ?_; intro v2 w2 hown2 hg2 hb2)
        go_roundg (l.length - (at_ + i))
        case rel =>
          refine ⟨at_ + i, acc ++ [n], by simp, by omega, rfl, by simp; omega, by rw [← i64s_snoc]; simpa using hown2, ?_, hb.trans hb2⟩
          rw [HR.out, W.all_ok HG.out, W.Alls.pre_pre, List.drop_drop]
        case measure => have := HK.out; omega
    · go_wp2_with fail
      go_ret2
      refine ⟨?_, hb⟩
      have e : l.drop at_ = [] := List.drop_eq_nil_of_le (by have := HS.out; omega)
      rw [HR.out, e]
      exact ⟨_, rfl, by simpa using hown⟩

set_option maxHeartbeats 400000 in
theorem rtake_nowhere (s : ByteArray) (at_ top : Int) (w : World) (h : ¬ (0 ≤ at_ ∧ at_ ≤ s.size)) : Calls Try.prog 99 #[.string s, .int .i64 at_, .int .i64 top] w
    fun x w' => x = .returned (.tuple #[.string ⟨#[]⟩, .int .i64 0, .int .i64 1]) ∧ w = w' := by
  go_enter Try.func99, Try.ntmps99
  go_wp2_with fail
  refine (rget_bad s at_ _ h).mono ?_
  rintro e w1 ⟨rfl, rfl⟩
  go_wp2_with fail
  exact bodyPost_ret (results_tmp3 rfl _ _ _) rfl ⟨rfl, rfl⟩

set_option maxHeartbeats 400000 in
theorem rtake_any (s : ByteArray) (at_ : Nat) (top : Int) (w : World) (hs : s.size ≤ 1000000000) (h : at_ ≤ s.size) : Calls Try.prog 99 #[.string s, .int .i64 at_, .int .i64 top] w
    fun x w' => x = TakeEnd at_ (W.take (s.data.toList.drop at_) top) ∧ w = w' := by
  have hr := fun w => rget_any s at_ w hs h
  obtain ⟨l, hl⟩ : ∃ l, l = s.data.toList.drop at_ := ⟨_, rfl⟩
  rw [← hl] at hr ⊢
  have hsz : s.size = at_ + l.length := by rw [hl]; simp; omega
  have HS := Lib.hid hsz; clear hsz
  have HL := Lib.hid hl; clear hl
  generalize hg : W.rd l 0 0 = r at hr
  have HG := Lib.hid hg; clear hg
  have HR := Lib.hid hr; clear hr
  cases r with
  | bad e =>
    have he := errno_pos _ _ _ _ HG.out
    have e0 : ((e : Int) != 0) = true := by rw [bne_iff_ne]; omega
    go_enter Try.func99, Try.ntmps99
    go_wp2_with fail
    refine (HR.out _).mono ?_
    rintro y w1 ⟨rfl, rfl⟩
    simp only [getEnd]
    go_wp2_with fail
    refine bodyPost_ret (results_tmp3 rfl _ _ _) rfl ⟨?_, rfl⟩
    rw [W.take_bad HG.out]; rfl
  | ok n i =>
    have hp := W.rd_pos _ _ _ _ _ HG.out
    have hp2 : at_ + i ≤ s.size := by have := HS.out; omega
    have hp3 := hp.2.2
    have e0 : ((0 : Int) != 0) = false := rfl
    by_cases c0 : 0 < n
    · by_cases c1 : (n : Int) ≤ top
      · by_cases c2 : n ≤ l.length - i
        · have c2' : ¬ (s.size : Int) - ((at_ : Int) + (i : Int)) < (n : Int) := by have := HS.out; omega
          go_enter Try.func99, Try.ntmps99
          go_wp2_with fail
          refine (HR.out _).mono ?_
          rintro y w1 ⟨rfl, rfl⟩
          simp only [getEnd]
          go_wp2_with fail
          refine bodyPost_ret (results_tmp3 rfl _ _ _) rfl ⟨?_, rfl⟩
          rw [W.take_ok HG.out (by omega) c2]
          have e1 := extract_list s (at_ + i) (at_ + i + n) n rfl
          rw [← List.drop_drop, ← HL.out] at e1
          simp [TakeEnd, ← e1, Int.natCast_add, Int.add_assoc]
        · have c2' : (s.size : Int) - ((at_ : Int) + (i : Int)) < (n : Int) := by have := HS.out; omega
          go_enter Try.func99, Try.ntmps99
          go_wp2_with fail
          refine (HR.out _).mono ?_
          rintro y w1 ⟨rfl, rfl⟩
          simp only [getEnd]
          go_wp2_with fail
          refine bodyPost_ret (results_tmp3 rfl _ _ _) rfl ⟨?_, rfl⟩
          rw [W.take_short HG.out (by omega) c2]; rfl
      · have c1' : top < (n : Int) := by omega
        go_enter Try.func99, Try.ntmps99
        go_wp2_with fail
        refine (HR.out _).mono ?_
        rintro y w1 ⟨rfl, rfl⟩
        simp only [getEnd]
        go_wp2_with fail
        refine bodyPost_ret (results_tmp3 rfl _ _ _) rfl ⟨?_, rfl⟩
        rw [W.take_big HG.out (by omega)]; rfl
    · have c0' : n ≤ 0 := by omega
      go_enter Try.func99, Try.ntmps99
      go_wp2_with fail
      refine (HR.out _).mono ?_
      rintro y w1 ⟨rfl, rfl⟩
      simp only [getEnd]
      go_wp2_with fail
      refine bodyPost_ret (results_tmp3 rfl _ _ _) rfl ⟨?_, rfl⟩
      rw [W.take_ok HG.out (by omega) (by omega)]
      have e1 := extract_list s (at_ + i) (at_ + i + n) n rfl
      rw [← List.drop_drop, ← HL.out] at e1
      simp [TakeEnd, ← e1, Int.natCast_add, Int.add_assoc]
end Go.Proofs.Ytdfgnmdofjhnkaa
