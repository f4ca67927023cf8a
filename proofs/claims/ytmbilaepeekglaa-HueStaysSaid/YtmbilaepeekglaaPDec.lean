/- The piece of a piece's numbers; bytes of pieces. No program in sight. -/
import Derived.Test.YtmbilaepeekglaaPRd
namespace Go.Proofs.Ytmbilaepeekglaa.Pc

theorem rep_nx (r : List Int) : ∀ xs : List Int, rep nx xs.length (xs ++ r) = (xs, r) := by
  intro xs
  induction xs with
  | nil => rfl
  | cons x t ih =>
    have h : rep nx (t.length + 1) (x :: (t ++ r)) = (x :: (rep nx t.length (t ++ r)).1, (rep nx t.length (t ++ r)).2) := rfl
    rw [List.length_cons, List.cons_append, h, ih]
theorem rep_of {α : Type} {one : List Int → α × List Int} {enc : α → List Int} {ok : α → Prop} (h : ∀ x r, ok x → one (enc x ++ r) = (x, r)) (r : List Int) : ∀ xs : List α, (∀ x ∈ xs, ok x) → rep one xs.length (xs.flatMap enc ++ r) = (xs, r) := by
  intro xs
  induction xs with
  | nil => intro _; rfl
  | cons x t ih =>
    intro hok
    have e : (x :: t).flatMap enc ++ r = enc x ++ (t.flatMap enc ++ r) := by simp
    have h2 : ∀ l, rep one (t.length + 1) l = ((one l).1 :: (rep one t.length (one l).2).1, (rep one t.length (one l).2).2) := fun _ => rfl
    rw [e, List.length_cons, h2, h _ _ (hok x (by simp)), ih (fun y hy => hok y (by simp [hy]))]
theorem cnt_len {n : Nat} {most : Int} (h : (n : Int) ≤ most) (t : List Int) : (cnt most ((n : Int) :: t)).1.toNat = n ∧ (cnt most ((n : Int) :: t)).2 = t := by
  simp only [cnt, nx]; exact ⟨by omega, trivial⟩
theorem rmsg_enc (m : Int × Int) (r : List Int) : rmsg ([m.1, m.2] ++ r) = (m, r) := rfl
theorem rin_enc (x : List (Int × Int)) (r : List Int) (h : x.length ≤ 500) : rin (((x.length : Int) :: pairs x) ++ r) = (x, r) := by
  obtain ⟨h1, h2⟩ := cnt_len (n := x.length) (most := 500) (by omega) (pairs x ++ r)
  unfold rin
  rw [List.cons_append, h1, h2]
  exact rep_of (one := rmsg) (ok := fun _ => True) (fun m r _ => rmsg_enc m r) r x (fun _ _ => trivial)
theorem rout_enc (x : List Int) (r : List Int) (h : x.length ≤ 500) : rout (((x.length : Int) :: x) ++ r) = (x, r) := by
  obtain ⟨h1, h2⟩ := cnt_len (n := x.length) (most := 500) (by omega) (x ++ r)
  unfold rout
  rw [List.cons_append, h1, h2]
  exact rep_nx r x
theorem rd_nums {p : Piece} (hs : small p) (r : List Int) : rd (nums p ++ r) = p := by
  obtain ⟨q1, q2, q3, q4, q5⟩ := hs
  obtain ⟨a, b, c, xs, ms, os⟩ := p
  dsimp only at q1 q2 q3 q4 q5
  have e : nums ⟨a, b, c, xs, ms, os⟩ ++ r = a :: b :: c :: (xs.length : Int) :: (xs ++ ((ms.length : Int) :: (numsIn ms ++ ((os.length : Int) :: (numsOut os ++ r))))) := by simp [nums]
  rw [e]
  have s1 : rsent ((xs.length : Int) :: (xs ++ ((ms.length : Int) :: (numsIn ms ++ ((os.length : Int) :: (numsOut os ++ r)))))) = (xs, (ms.length : Int) :: (numsIn ms ++ ((os.length : Int) :: (numsOut os ++ r)))) := by
    obtain ⟨h1, h2⟩ := cnt_len (n := xs.length) (most := 5) (by omega) (xs ++ ((ms.length : Int) :: (numsIn ms ++ ((os.length : Int) :: (numsOut os ++ r)))))
    unfold rsent
    rw [h1, h2]
    exact rep_nx _ xs
  have s2 : rins ((ms.length : Int) :: (numsIn ms ++ ((os.length : Int) :: (numsOut os ++ r)))) = (ms, (os.length : Int) :: (numsOut os ++ r)) := by
    obtain ⟨h1, h2⟩ := cnt_len (n := ms.length) (most := 5) (by omega) (numsIn ms ++ ((os.length : Int) :: (numsOut os ++ r)))
    unfold rins
    rw [h1, h2]
    exact rep_of (one := rin) (ok := fun x => x.length ≤ 500) (fun x r h => rin_enc x r h) _ ms q4
  have s3 : routs ((os.length : Int) :: (numsOut os ++ r)) = (os, r) := by
    obtain ⟨h1, h2⟩ := cnt_len (n := os.length) (most := 5) (by omega) (numsOut os ++ r)
    unfold routs
    rw [h1, h2]
    exact rep_of (one := rout) (ok := fun x => x.length ≤ 500) (fun x r h => rout_enc x r h) _ os q5
  have e3 : ∀ T, rd (a :: b :: c :: T) = ⟨a, b, c, (rsent T).1, (rins (rsent T).2).1, (routs (rins (rsent T).2).2).1⟩ := fun _ => rfl
  rw [e3, s1]
  dsimp only
  rw [s2]
  dsimp only
  rw [s3]

/-- The numbers of a right piece are such as word.Put writes. -/
theorem rising_nums : ∀ (x : List (Int × Int)) (last : Int), 0 ≤ last → rising last x = true → ∀ n ∈ pairs x, 0 ≤ n ∧ n ≤ 2147483647 := by
  intro x
  induction x with
  | nil => intro _ _ _ n hn; simp [pairs] at hn
  | cons m t ih =>
    intro last hl h n hn
    simp only [rising, Bool.and_eq_true, decide_eq_true_eq] at h
    simp only [pairs, List.flatMap_cons, List.mem_append, List.mem_cons, List.not_mem_nil, or_false] at hn
    rcases hn with (rfl | rfl) | hn
    · omega
    · omega
    · exact ih m.1 (by omega) h.2 n hn
theorem right_nums {p : Piece} (h : right p = true) : Nums (nums p) := by
  have hs := small_of h
  simp only [right, Bool.and_eq_true] at h
  obtain ⟨h1, h2, h3, h4⟩ := h
  have h1' := of_decide_eq_true h1
  obtain ⟨q1, q2, q3, q4, q5⟩ := hs
  intro n hn
  simp only [nums, List.mem_append, List.mem_cons, List.not_mem_nil, or_false] at hn
  rcases hn with (((((rfl | rfl | rfl | rfl) | hn) | rfl) | hn) | rfl) | hn
  · omega
  · omega
  · omega
  · omega
  · have := of_decide_eq_true (List.all_eq_true.1 h2 n hn); omega
  · omega
  · simp only [numsIn, List.mem_flatMap, List.mem_cons] at hn
    obtain ⟨x, hx, hn⟩ := hn
    rcases hn with rfl | hn
    · have := q4 x hx; omega
    · exact rising_nums x 0 (by omega) (List.all_eq_true.1 h3 x hx) n hn
  · omega
  · simp only [numsOut, List.mem_flatMap, List.mem_cons] at hn
    obtain ⟨x, hx, hn⟩ := hn
    have h5 := List.all_eq_true.1 h4 x hx
    simp only [okOut, Bool.and_eq_true] at h5
    rcases hn with rfl | hn
    · have := q5 x hx; omega
    · have := of_decide_eq_true (List.all_eq_true.1 h5.2 n hn); omega
theorem zs_cl {l : List Int} (h : Nums l) : zs (l.map W.cl) = l := by
  simp only [zs, List.map_map]
  conv => rhs; rw [← List.map_id l]
  apply List.map_congr_left
  intro n hn
  have := h n hn
  exact W.cl_of n this.1 this.2
theorem all_nums {l : List Int} : W.all (W.puts l) = .ok (l.map W.cl) := by
  have := W.all_puts l []
  rw [List.append_nil] at this
  rw [this, W.all_nil]; simp [W.Alls.pre]
/-- A piece that may be is decoded as it was encoded. -/
theorem dec_enc {p : Piece} (h : right p = true) : dec (W.puts (nums p)) = p ∧ decE (W.puts (nums p)) = 0 := by
  have e := rd_nums (small_of h) []
  rw [List.append_nil] at e
  have hz := zs_cl (right_nums h)
  have hp : isP (W.puts (nums p)) ((nums p).map W.cl) = true := by
    unfold isP; rw [hz, e, h]; simp
  have := dec_yes all_nums hp
  rw [hz, e] at this
  exact this
theorem decE_01 (bs : List UInt8) : decE bs = 0 ∨ decE bs = 4 := by
  unfold decE
  split
  · exact .inr rfl
  · split
    · exact .inl rfl
    · exact .inr rfl
/-- What is decoded is right, and its bytes are those. -/
theorem dec_right {bs : List UInt8} (h : decE bs = 0) : right (dec bs) = true ∧ W.puts (nums (dec bs)) = bs := by
  cases hl : W.all bs with
  | bad e => rw [(dec_bad hl).2] at h; cases h
  | ok l =>
    cases hp : isP bs l with
    | false => rw [(dec_no hl hp).2] at h; cases h
    | true =>
      rw [(dec_yes hl hp).1]
      unfold isP at hp
      simpa using hp
theorem dec_zero {bs : List UInt8} (h : decE bs ≠ 0) : dec bs = zero ∧ decE bs = 4 := by
  cases hl : W.all bs with
  | bad e => exact dec_bad hl
  | ok l =>
    cases hp : isP bs l with
    | false => exact dec_no hl hp
    | true => exact absurd (dec_yes hl hp).2 h
/-- Unlike pieces have unlike bytes, and none's begin the other one's. -/
theorem puts_apart {p q : Piece} (hp : right p = true) (hq : right q = true) {r : List UInt8} (h : W.puts (nums p) ++ r = W.puts (nums q)) : p = q ∧ r = [] := by
  have h1 := W.all_puts (nums p) r
  rw [h, all_nums] at h1
  cases hr : W.all r with
  | bad e => rw [hr] at h1; simp [W.Alls.pre] at h1
  | ok l =>
    rw [hr] at h1
    simp only [W.Alls.pre] at h1
    injection h1 with h1
    have h2 := congrArg zs h1
    rw [zs_cl (right_nums hq)] at h2
    have h3 : zs ((nums p).map W.cl ++ l) = nums p ++ zs l := by
      have := zs_cl (right_nums hp)
      simp only [zs, List.map_append] at this ⊢
      rw [this]
    rw [h3] at h2
    have e1 := rd_nums (small_of hp) (zs l)
    have e2 := rd_nums (small_of hq) []
    rw [List.append_nil] at e2
    rw [h2, e1] at e2
    subst e2
    refine ⟨rfl, ?_⟩
    have := congrArg List.length h
    rw [List.length_append] at this
    exact List.eq_nil_of_length_eq_zero (by omega)
theorem puts_inj {p q : Piece} (hp : right p = true) (hq : right q = true) : (W.puts (nums p) = W.puts (nums q)) ↔ p = q :=
  ⟨fun h => (puts_apart hp hq (r := []) (by simpa using h)).1, fun h => by rw [h]⟩
/-- Bytes of a piece without the last ones are none. -/
theorem decE_take {p : Piece} (hp : right p = true) {k : Nat} (hk : k < (W.puts (nums p)).length) : decE ((W.puts (nums p)).take k) = 4 := by
  rcases decE_01 ((W.puts (nums p)).take k) with h | h
  · exfalso
    obtain ⟨h1, h2⟩ := dec_right h
    have := (puts_apart h1 hp (r := (W.puts (nums p)).drop k) (by rw [h2, List.take_append_drop])).2
    have := congrArg List.length this
    simp at this
    omega
  · exact h
theorem decE_more {p : Piece} (hp : right p = true) (c : UInt8) : decE (W.puts (nums p) ++ [c]) = 4 := by
  rcases decE_01 (W.puts (nums p) ++ [c]) with h | h
  · exfalso
    obtain ⟨h1, h2⟩ := dec_right h
    have := (puts_apart hp h1 (r := [c]) h2.symm).2
    simp at this
  · exact h
theorem nums_pos (p : Piece) : 6 ≤ (nums p).length := by simp [nums]; omega
theorem puts_pos (p : Piece) : 0 < (W.puts (nums p)).length := by
  have : nums p = p.node :: (nums p).tail := rfl
  rw [this]
  have h := (W.put_len p.node).2
  simp only [W.puts, List.flatMap_cons, List.length_append]
  omega
end Go.Proofs.Ytmbilaepeekglaa.Pc
