/- Lemmas, walks and contracts that the statements of this seat are proved by. -/
import Derived.Test.YtdfgnmdofjhnkaaG13
import Derived.Test.YtdfgnmdofjhnkaaG4
import Derived.Test.YtdfgnmdofjhnkaaG6
import Derived.Test.YtdfgnmdofjhnkaaG7
import Derived.Test.YtdfgnmdofjhnkaaG8
import Derived.Test.YtdfgnmdofjhnkaaG12
/- frame.Encode. -/
namespace Go.Proofs.Ytdfgnmdofjhnkaa
open Go.RowKit

namespace Fr
/-- What bounds the bytes of a frame that may be. -/
def small (f : Fr) : Prop := f.pieces.length ≤ 6 ∧ (f.kind = 5 → ∀ p ∈ f.pieces, Pc.right p = true) ∧ f.path.length ≤ 6
theorem small_of {f : Fr} (h : right f = true) : small f := by
  have hk := right_kind h
  have ho := right_only h
  have hu := right_rule h
  obtain ⟨k, e, s, t, ps, i, n, c, p⟩ := f
  dsimp only at hk
  by_cases k0 : k = 0
  · subst k0
    rw [only_0] at ho
    simp only [Fr.mk.injEq] at ho
    obtain ⟨_, _, _, _, rfl, rfl, rfl, rfl, rfl⟩ := ho
    exact ⟨by simp, fun h => absurd h (by simp), by simp⟩
  · by_cases k5 : k = 5
    · subst k5
      rw [only_5] at ho
      simp only [Fr.mk.injEq] at ho
      obtain ⟨_, _, rfl, rfl, _, rfl, rfl, rfl, rfl⟩ := ho
      have hu : report ⟨5, e, 0, 0, ps, 0, 0, 0, []⟩ = true := hu
      simp only [report, control, Pc.within, Bool.and_eq_true, decide_eq_true_eq, List.all_eq_true] at hu
      exact ⟨by dsimp only; omega, fun _ => hu.2.2, by simp⟩
    · by_cases k6 : k = 6
      · subst k6
        rw [only_6] at ho
        simp only [Fr.mk.injEq] at ho
        obtain ⟨_, rfl, rfl, rfl, rfl, _⟩ := ho
        have hu : probe ⟨6, 0, 0, 0, [], i, n, c, p⟩ = true := hu
        simp only [probe, Pc.within, Bool.and_eq_true, decide_eq_true_eq] at hu
        exact ⟨by simp, fun h => absurd h (by simp), by dsimp only; omega⟩
      · rw [only_n k0 k5 k6] at ho
        simp only [Fr.mk.injEq] at ho
        obtain ⟨_, _, rfl, rfl, rfl, rfl, rfl, rfl, rfl⟩ := ho
        exact ⟨by simp, fun h => absurd h k5, by simp⟩
theorem text_le {p : Pc.Piece} (h : Pc.right p = true) : (W.text (Pc.enc p)).length ≤ 40005 := by
  have := enc_le h
  have := (W.put_len ((Pc.enc p).length : Int)).1
  simp only [W.text, List.length_append]
  omega
theorem texts_take {l : List Pc.Piece} {j : Nat} {p : Pc.Piece} (h : l[j]? = some p) : texts (l.take (j + 1)) = texts (l.take j) ++ W.text (Pc.enc p) := by rw [Pc.take_next h, texts_snoc]
end Fr
theorem lit_ints (w : World) (xs : List Int) (hl : xs.length ≤ 1000000) : SliceIs Rep.int true (w.alloc (.cells (ints xs).toArray 3)) 0 (w.alloc (.cells (ints xs).toArray 3)).heap.size (.slice (some ⟨w.heap.size, 0, none⟩) xs.length xs.length) xs :=
  SliceOn.is_ (SliceOn.of_block (cells := ints xs) (Box.new _ _ _) (ints_all _ _ _ xs) ⟨Nat.zero_le _, by simp⟩ rfl (Nat.le_refl _) (by unfold maxLen; omega))
theorem frrightq {v : Value} {f : Fr} {w : World} {b : Bool} (h : FrIs false w 0 w.heap.size v f) (hb : Fr.right f = b) : Calls Try.prog 36 #[v] w fun y w' => y = .returned (.bool b) ∧ Below w.heap.size w w' := by subst hb; exact frright_any v f w h

set_option maxRecDepth 100000 in
set_option maxHeartbeats 8000000 in
theorem frencode_any (v : Value) (f : Fr) (w : World) (h : FrIs false w 0 w.heap.size v f) : Calls Try.prog 31 #[v] w
    fun y w' => y = .returned (.tuple #[.string ⟨(Fr.enc f).toArray⟩, .int .i64 (Fr.err f)]) ∧ Below w.heap.size w w' := by
  obtain ⟨rr, hrr⟩ : ∃ b, Fr.right f = b := ⟨_, rfl⟩
  have hen : Fr.enc f = if rr = true then Fr.body f else [] := by rw [← hrr]; rfl
  have her : Fr.err f = if rr = true then 0 else 4 := by rw [← hrr]; rfl
  rw [hen, her]
  clear hen her
  obtain ⟨S, hS⟩ : ∃ S, (if rr = true then Fr.body f else []) = S := ⟨_, rfl⟩
  obtain ⟨R, hR⟩ : ∃ R, (if rr = true then (0 : Int) else 4) = R := ⟨_, rfl⟩
  rw [hS, hR]
  have hsm : rr = true → Fr.small f := fun h => Fr.small_of (hrr.trans h)
  obtain ⟨k, e, s, t, ps, i, n, c, p⟩ := f
  obtain ⟨A, B, x, y, rfl, h1, h2⟩ := h
  dsimp only at h1 h2 hsm ⊢
  obtain ⟨_, _, he, hpl, hpm, _⟩ := id h1
  cases he
  obtain ⟨_, _, he, hql, hqm, _⟩ := id h2
  cases he
  unfold maxLen at hpm hqm
  have HS0 := Lib.hid hS; have HR0 := Lib.hid hR; clear hS hR
  have HSM := Lib.hid hsm; have HRR := Lib.hid hrr; clear hsm hrr
  go_enter Try.func31, Try.ntmps31
  go_upto_region 1 with fail
  refine name_wp fun W0 hW0 => ?_
  have bx : Box W0 w.heap.size #[.int .i64 k, .int .i64 e, .int .i64 s, .int .i64 t, .slice A ps.length x, .int .i64 i, .int .i64 n, .int .i64 c, .slice B p.length y] 58 := hW0 ▸ Box.new _ _ _
  have hB : Below w.heap.size w W0 := hW0 ▸ (Below.refl _ _).alloc (Nat.le_refl _) _
  have hf : FrIs false W0 0 W0.heap.size (.agg #[.int .i64 k, .int .i64 e, .int .i64 s, .int .i64 t, .slice A ps.length x, .int .i64 i, .int .i64 n, .int .i64 c, .slice B p.length y]) ⟨k, e, s, t, ps, i, n, c, p⟩ := FrIs.of (f := ⟨k, e, s, t, ps, i, n, c, p⟩) (h1.fwd hB) (h2.fwd hB)
  replace h1 := h1.fwd hB; replace h2 := h2.fwd hB
  clear hW0
  obtain ⟨d0, d1, d2, d3, d4, d5, d6, d7, d8⟩ := nine_cells bx
  go_wp2_with fail
  clear d0 d1 d2 d3 d4 d5 d6 d7 d8
  refine (frrightq hf HRR.out).mono ?_
  rintro z w1 ⟨rfl, hb⟩
  replace bx := bx.next hb; replace h1 := h1.fwd hb; replace h2 := h2.fwd hb
  replace hB := hB.trans (hb.mono hB.size)
  clear hb hf
  cases rr
  ·
    have e1 : S = [] := HS0.out.symm.trans (if_neg (by simp))
    have e2 : R = 4 := HR0.out.symm.trans (if_neg (by simp))
    have E1 := Lib.hid e1; have E2 := Lib.hid e2; clear e1 e2
    go_wp2_with fail
    go_ret2
    exact ⟨by rw [E1.out, E2.out]; rfl, hB⟩
  have hr2 : R = 0 := HR0.out.symm.trans (if_pos rfl)
  have hs2 : S = Fr.body ⟨k, e, s, t, ps, i, n, c, p⟩ := HS0.out.symm.trans (if_pos rfl)
  have HR2 := Lib.hid hr2; clear hr2 HS0 HR0
  obtain ⟨sm1, sm2, sm3⟩ := HSM.out rfl
  dsimp only at sm1 sm2 sm3
  clear HSM HRR
  by_cases k0 : k = 0
  ·
    subst k0
    have hbody : Fr.body ⟨0, e, s, t, ps, i, n, c, p⟩ = W.puts [0, e, s, t] := rfl
    rw [hbody] at hs2
    have HS2 := Lib.hid hs2; clear hs2
    obtain ⟨d0, d1, d2, d3, d4, d5, d6, d7, d8⟩ := nine_cells bx
    go_wp2_with fail
    clear d0 d1 d2 d3 d4 d5 d6 d7 d8
    refine name_call fun V hV => ?_
    have hl : SliceIs Rep.int true V 0 V.heap.size (.slice (some ⟨w1.heap.size, 0, none⟩) 4 4) [0, e, s, t] := hV ▸ lit_ints w1 [0, e, s, t] (by simp)
    have hbV : Below w1.heap.size w1 V := hV ▸ (Below.refl _ _).alloc (Nat.le_refl _) _
    clear hV
    refine (puts_any _ _ _ (IsInts.of_slice hl) (by simp)).mono ?_
    rintro z w2 ⟨rfl, hb⟩
    replace hb := hbV.trans (hb.mono hbV.size)
    clear hl hbV
    replace bx := bx.next hb; replace h1 := h1.fwd hb; replace h2 := h2.fwd hb
    replace hB := hB.trans (hb.mono hB.size)
    clear hb
    go_wp2_with fail
    go_ret2
    exact ⟨by rw [HS2.out, HR2.out]; rfl, hB⟩
  have b0 : (k == 0) = false := by simpa using k0
  by_cases k5 : k = 5
  ·
    subst k5
    have hbody : Fr.body ⟨5, e, s, t, ps, i, n, c, p⟩ = W.puts [5, e, (ps.length : Int)] ++ Fr.texts ps := rfl
    rw [hbody] at hs2
    have HS := Lib.hid sm1; have HR := Lib.hid (sm2 rfl); clear sm1 sm2 sm3
    obtain ⟨X, hX⟩ : ∃ X, W.puts [5, e, (ps.length : Int)] ++ Fr.texts ps = X := ⟨_, rfl⟩
    rw [hX] at hs2
    have HX := Lib.hid hX; have HS2 := Lib.hid hs2; clear hX hbody hs2
    obtain ⟨d0, d1, d2, d3, d4, d5, d6, d7, d8⟩ := nine_cells bx
    go_wp2_with fail
    clear d0 d1 d2 d3 d4 d5 d6 d7 d8
    refine name_call fun V hV => ?_
    have hl : SliceIs Rep.int true V 0 V.heap.size (.slice (some ⟨w1.heap.size, 0, none⟩) 3 3) [5, e, (ps.length : Int)] := hV ▸ lit_ints w1 [5, e, (ps.length : Int)] (by simp)
    have hbV : Below w1.heap.size w1 V := hV ▸ (Below.refl _ _).alloc (Nat.le_refl _) _
    clear hV
    refine (puts_any _ _ _ (IsInts.of_slice hl) (by simp)).mono ?_
    rintro z w2 ⟨rfl, hb⟩
    replace hb := hbV.trans (hb.mono hbV.size)
    clear hl hbV
    replace bx := bx.next hb; replace h1 := h1.fwd hb; replace h2 := h2.fwd hb
    replace hB := hB.trans (hb.mono hB.size)
    clear hb
    obtain ⟨Y, hY⟩ : ∃ Y, W.puts [5, e, (ps.length : Int)] = Y := ⟨_, rfl⟩
    rw [hY]
    have hYl : Y.length ≤ 15 := by rw [← hY]; have := W.puts_len [5, e, (ps.length : Int)]; simpa using this
    rw [hY] at HX
    clear hY
    have H1 := Lib.hid h1; clear h1 h2
    obtain ⟨d0, d1, d2, d3, d4, d5, d6, d7, d8⟩ := nine_cells bx
    go_wp2_with fail
    clear d0 d1 d2 d3 d4 d5 d6 d7 d8
    go_loopg [4, 42] ps.length (fun k s i wr => ∃ (j : Nat) (l : List UInt8), i = .int .i64 (j : Int) ∧ j ≤ ps.length ∧ k = ps.length - j ∧ s = .string ⟨l.toArray⟩ ∧ l = Y ++ Fr.texts (ps.take j) ∧ l.length ≤ 15 + 40005 * j ∧ Below w2.heap.size w2 wr)
    case atStart => exact ⟨0, Y, rfl, by omega, by omega, rfl, by simp [Fr.texts], by omega, Below.refl _ _⟩
    case round =>
      obtain ⟨j, l, rfl, hj, hk, rfl, hl, hll, hb⟩ := hrel
      have HL := Lib.hid hl; have HK := Lib.hid hk; clear hl hk
      have hps := HS.out
      by_cases hlt : j < ps.length
      ·
        obtain ⟨u, hu⟩ := Pc.get_at hlt
        obtain ⟨g, o, a3, a4, a5, he, _, hg, c0, c1, c2, c3, c4, c5, hp⟩ := (H1.out.fwd hb).arr.piece hu
        subst he
        have hru : Pc.right u = true := HR.out u (List.mem_of_getElem? hu)
        have hel := Fr.enc_le hru
        have hxl := Fr.text_le hru
        have htk := Fr.texts_take hu
        have HT := Lib.hid htk; clear hu htk hru
        obtain ⟨_, _, _, he, ⟨A3, l3, rfl, _⟩, ⟨A4, l4, rfl, _⟩, ⟨A5, l5, rfl, _⟩⟩ := id hp
        cases he
        have HP := Lib.hid hp; clear hp
        go_upto_region 11 with fail
        clear c0 c1 c2 c3 c4 c5
        refine name_wp fun V hV => ?_
        have bu : Box V wr.heap.size #[.int .i64 u.node, .int .i64 u.state, .int .i64 u.steps, .slice A3 u.sent.length l3, .slice A4 u.inn.length l4, .slice A5 u.out.length l5] 26 := hV ▸ Box.new _ _ _
        have hbV : Below wr.heap.size wr V := hV ▸ (Below.refl _ _).alloc (Nat.le_refl _) _
        clear hV
        have hpV : PieceIs false V 0 V.heap.size _ u := (HP.out.below hbV (Nat.le_refl _)).widen (Nat.le_refl 0) hbV.size
        obtain ⟨c0, c1, c2, c3, c4, c5⟩ := bu.six
        go_wp2_with fail
        clear c0 c1 c2 c3 c4 c5
        refine (encode_any _ u _ hpV).mono ?_
        rintro z w3 ⟨rfl, hb3⟩
        obtain ⟨E, hE⟩ : ∃ E, Pc.enc u = E := ⟨_, rfl⟩
        rw [hE] at hel hxl HT ⊢
        obtain ⟨ER, hER⟩ : ∃ E, Pc.err u = E := ⟨_, rfl⟩
        rw [hER]
        clear hE hER hpV bu
        replace hb := (hb.trans (hbV.mono hb.size)).trans (hb3.mono (Nat.le_trans hb.size hbV.size))
        clear hb3 hbV
        go_wp2_with fail
        refine (text_any ⟨E.toArray⟩ _ (by show E.toArray.size ≤ 1000000000; simp; omega)).mono ?_
        rintro z w4 ⟨rfl, hb4⟩
        replace hb := hb.trans (hb4.mono hb.size)
        clear hb4
        rw [show (⟨E.toArray⟩ : ByteArray).data.toList = E from by simp]
        obtain ⟨TT, hTT⟩ : ∃ X, W.text E = X := ⟨_, rfl⟩
        rw [hTT] at hxl HT ⊢
        clear hTT
        go_wp2_with fail
        go_roundg (ps.length - (j + 1))
        case rel => exact ⟨j + 1, l ++ TT, by simp, by omega, rfl, by rw [ByteArray.mk_append_mk], by rw [HL.out, HT.out, List.append_assoc], by rw [List.length_append]; omega, hb⟩
        case measure => have := HK.out; omega
      ·
        rw [List.take_of_length_le (by omega)] at HL
        have hlX : l = X := HL.out.trans HX.out
        subst hlX
        clear HL HX
        go_wp2_with fail
        go_ret2
        exact ⟨by rw [HS2.out, HR2.out]; rfl, hB.trans (hb.mono hB.size)⟩
  have b5 : (k == 5) = false := by simpa using k5
  by_cases k6 : k = 6
  ·
    subst k6
    have hbody : Fr.body ⟨6, e, s, t, ps, i, n, c, p⟩ = W.puts ([6, i, n, c, (p.length : Int)] ++ p) := rfl
    rw [hbody] at hs2
    have HS2 := Lib.hid hs2; clear hs2
    clear hbody
    have hown : (w1.alloc (.cells (ints [6, i, n, c, (p.length : Int)]).toArray 3)).ownsRow w1.heap.size 3 Rep.int.size (.slice (some ⟨w1.heap.size, 0, none⟩) 5 5) 5 (ints [6, i, n, c, (p.length : Int)]) := own_lit (size := Rep.int.size) w1.heap.size 3 5 (ints [6, i, n, c, (p.length : Int)]) (by simp [Rep.int]) (Nat.le_refl _) (by unfold maxLen; omega)
    have hbV : Below w1.heap.size w1 (w1.alloc (.cells (ints [6, i, n, c, (p.length : Int)]).toArray 3)) := (Below.refl _ _).alloc (Nat.le_refl _) _
    have hpa := (h2.fwd hbV).arr
    have HO := Lib.hid hown; have HPA := Lib.hid hpa; clear hown hpa
    have hbl := bx.lt
    obtain ⟨d0, d1, d2, d3, d4, d5, d6, d7, d8⟩ := nine_cells bx
    go_wp2_with (at_builtin; go_loud (refine wpList_appendS (r := Rep.int) rfl (.tmp 70) (.tmp 72) 22 rfl w1.heap.size 3 Try.infoInt Try.underlying22 rfl _ 5 (ints [6, i, n, c, (p.length : Int)]) rfl HO.out _ _ rfl HPA.out (by unfold maxLen; omega) (by omega) (by simp) ?_; intro v2 w2 news hn hown hg hb2 ha))
    have hl : SliceIs Rep.int true w2 0 w2.heap.size v2 ([6, i, n, c, (p.length : Int)] ++ p) := SliceIs.of_own (r := Rep.int) (base := w1.heap.size) (e := 3) (cells := ints [6, i, n, c, (p.length : Int)] ++ news) (by rw [List.length_append]; exact hown) (Rep.all_append (ints_all _ _ _ _) (Rep.all_flat flat_int hn)) (Nat.zero_le _) (Nat.le_refl _)
    have hb := hbV.trans hb2
    clear hown hg hb2 ha hbV HO HPA hn
    obtain ⟨VA, VB, rfl, _⟩ := id hl
    refine (puts_any _ _ _ (IsInts.of_slice hl) (by simp only [List.length_append, List.length_cons, List.length_nil]; omega)).mono ?_
    rintro z w3 ⟨rfl, hb3⟩
    replace hb := hb.trans (hb3.mono hb.size)
    clear d0 d1 d2 d3 d4 d5 d6 d7 d8
    go_wp2_with fail
    go_ret2
    exact ⟨by rw [HS2.out, HR2.out]; rfl, hB.trans (hb.mono hB.size)⟩
  have b6 : (k == 6) = false := by simpa using k6
  have hbody : Fr.body ⟨k, e, s, t, ps, i, n, c, p⟩ = W.puts [k, e] := by unfold Fr.body; rw [if_neg k0, if_neg k5, if_neg k6]
  rw [hbody] at hs2
  have HS2 := Lib.hid hs2; clear hs2
  clear hbody
  obtain ⟨d0, d1, d2, d3, d4, d5, d6, d7, d8⟩ := nine_cells bx
  go_wp2_with fail
  clear d0 d1 d2 d3 d4 d5 d6 d7 d8
  refine name_call fun V hV => ?_
  have hl : SliceIs Rep.int true V 0 V.heap.size (.slice (some ⟨w1.heap.size, 0, none⟩) 2 2) [k, e] := hV ▸ lit_ints w1 [k, e] (by simp)
  have hbV : Below w1.heap.size w1 V := hV ▸ (Below.refl _ _).alloc (Nat.le_refl _) _
  clear hV
  refine (puts_any _ _ _ (IsInts.of_slice hl) (by simp)).mono ?_
  rintro z w2 ⟨rfl, hb⟩
  replace hb := hbV.trans (hb.mono hbV.size)
  clear hl hbV
  replace bx := bx.next hb; replace h1 := h1.fwd hb; replace h2 := h2.fwd hb
  replace hB := hB.trans (hb.mono hB.size)
  clear hb
  go_wp2_with fail
  go_ret2
  exact ⟨by rw [HS2.out, HR2.out]; rfl, hB⟩
end Go.Proofs.Ytdfgnmdofjhnkaa

/- The document's Encode of frames. -/
namespace Go.Proofs.Ytdfgnmdofjhnkaa
open Go.RowKit

namespace Fr
/-- What a frame that may be does not hold. -/
def parts (f : Fr) : Prop := f.kind ≠ 5 → f.pieces = []
theorem parts_of {f : Fr} (h : right f = true) : parts f := by
  intro k5
  have ho := right_only h
  obtain ⟨k, e, s, t, ps, i, n, c, p⟩ := f
  dsimp only at k5 ⊢
  by_cases k0 : k = 0
  · subst k0
    rw [only_0] at ho
    simp only [Fr.mk.injEq] at ho
    exact ho.2.2.2.2.1
  · by_cases k6 : k = 6
    · subst k6
      rw [only_6] at ho
      simp only [Fr.mk.injEq] at ho
      exact ho.2.2.2.2.1
    · rw [only_n k0 k5 k6] at ho
      simp only [Fr.mk.injEq] at ho
      exact ho.2.2.2.2.1
theorem body_6 (e s t : Int) (ps : List Pc.Piece) (i n c : Int) (p : List Int) : body ⟨6, e, s, t, ps, i, n, c, p⟩ = W.put 6 ++ (W.puts [i, n, c, (p.length : Int)] ++ W.puts p) := by
  show W.puts ([6, i, n, c, (p.length : Int)] ++ p) = _
  simp [W.puts]
theorem body_0 (e s t : Int) (ps : List Pc.Piece) (i n c : Int) (p : List Int) : body ⟨0, e, s, t, ps, i, n, c, p⟩ = W.put 0 ++ W.put e ++ (W.put s ++ W.put t) := by
  show W.puts [0, e, s, t] = _
  simp [W.puts]
theorem body_5 (e s t : Int) (ps : List Pc.Piece) (i n c : Int) (p : List Int) : body ⟨5, e, s, t, ps, i, n, c, p⟩ = (W.put 5 ++ W.put e ++ W.put (ps.length : Int)) ++ texts ps := by
  show W.puts [5, e, (ps.length : Int)] ++ texts ps = _
  simp [W.puts]
theorem body_n {k : Int} (k0 : k ≠ 0) (k5 : k ≠ 5) (k6 : k ≠ 6) (e s t : Int) (ps : List Pc.Piece) (i n c : Int) (p : List Int) : body ⟨k, e, s, t, ps, i, n, c, p⟩ = W.put k ++ W.put e := by
  unfold body
  rw [if_neg k0, if_neg k5, if_neg k6]
  simp [W.puts]
end Fr
theorem nameAny {P : Program} {Q : Exit → Act → World → Prop} {md : Region.Mode} {M : Nat} {wM : World} {ops : Array Oper} {fuel : Nat} {li : Array Bool} {a : Act} {w : World} (h : ∀ W, w = W → wpAnyM P md ops Q M wM fuel li a W) : wpAnyM P md ops Q M wM fuel li a w := h w rfl
theorem rfrrightq {v : Value} {f : Fr} {w : World} {b : Bool} (h : FrIs false w 0 w.heap.size v f) (hb : Fr.right f = b) : Calls Try.prog 37 #[v] w fun y w' => y = .returned (.bool b) ∧ Below w.heap.size w w' := by subst hb; exact rfrright_any v f w h

set_option maxRecDepth 100000 in
set_option maxHeartbeats 8000000 in
theorem rfrencode_any (v : Value) (f : Fr) (w : World) (h : FrIs false w 0 w.heap.size v f) : Calls Try.prog 32 #[v] w
    fun y w' => y = .returned (.tuple #[.string ⟨(Fr.enc f).toArray⟩, .int .i64 (Fr.err f)]) ∧ Below w.heap.size w w' := by
  obtain ⟨rr, hrr⟩ : ∃ b, Fr.right f = b := ⟨_, rfl⟩
  have hen : Fr.enc f = if rr = true then Fr.body f else [] := by rw [← hrr]; rfl
  have her : Fr.err f = if rr = true then 0 else 4 := by rw [← hrr]; rfl
  rw [hen, her]
  clear hen her
  obtain ⟨S, hS⟩ : ∃ S, (if rr = true then Fr.body f else []) = S := ⟨_, rfl⟩
  obtain ⟨R, hR⟩ : ∃ R, (if rr = true then (0 : Int) else 4) = R := ⟨_, rfl⟩
  rw [hS, hR]
  have hsm : rr = true → Fr.small f ∧ Fr.parts f := fun h => ⟨Fr.small_of (hrr.trans h), Fr.parts_of (hrr.trans h)⟩
  obtain ⟨k, e, s, t, ps, i, n, c, p⟩ := f
  obtain ⟨A, B, x, y, rfl, h1, h2⟩ := h
  dsimp only at h1 h2 hsm ⊢
  obtain ⟨_, _, he, hpl, hpm, _⟩ := id h1
  cases he
  obtain ⟨_, _, he, hql, hqm, _⟩ := id h2
  cases he
  unfold maxLen at hpm hqm
  have HS0 := Lib.hid hS; have HR0 := Lib.hid hR; clear hS hR
  have HSM := Lib.hid hsm; have HRR := Lib.hid hrr; clear hsm hrr
  go_enter Try.func32, Try.ntmps32
  go_upto_region 1 with fail
  refine name_wp fun W0 hW0 => ?_
  have bx : Box W0 w.heap.size #[.int .i64 k, .int .i64 e, .int .i64 s, .int .i64 t, .slice A ps.length x, .int .i64 i, .int .i64 n, .int .i64 c, .slice B p.length y] 64 := hW0 ▸ Box.new _ _ _
  have hB : Below w.heap.size w W0 := hW0 ▸ (Below.refl _ _).alloc (Nat.le_refl _) _
  have hf : FrIs false W0 0 W0.heap.size (.agg #[.int .i64 k, .int .i64 e, .int .i64 s, .int .i64 t, .slice A ps.length x, .int .i64 i, .int .i64 n, .int .i64 c, .slice B p.length y]) ⟨k, e, s, t, ps, i, n, c, p⟩ := FrIs.of (f := ⟨k, e, s, t, ps, i, n, c, p⟩) (h1.fwd hB) (h2.fwd hB)
  replace h1 := h1.fwd hB; replace h2 := h2.fwd hB
  clear hW0
  obtain ⟨d0, d1, d2, d3, d4, d5, d6, d7, d8⟩ := nine_cells bx
  go_wp2_with fail
  clear d0 d1 d2 d3 d4 d5 d6 d7 d8
  refine (rfrrightq hf HRR.out).mono ?_
  rintro z w1 ⟨rfl, hb⟩
  replace bx := bx.next hb; replace h1 := h1.fwd hb; replace h2 := h2.fwd hb
  replace hB := hB.trans (hb.mono hB.size)
  clear hb
  clear hf
  cases rr
  ·
    have e1 : S = [] := HS0.out.symm.trans (if_neg (by simp))
    have e2 : R = 4 := HR0.out.symm.trans (if_neg (by simp))
    have E1 := Lib.hid e1; have E2 := Lib.hid e2; clear e1 e2
    go_wp2_with fail
    go_ret2
    exact ⟨by rw [E1.out, E2.out]; rfl, hB⟩
  have hr2 : R = 0 := HR0.out.symm.trans (if_pos rfl)
  have hs2 : S = Fr.body ⟨k, e, s, t, ps, i, n, c, p⟩ := HS0.out.symm.trans (if_pos rfl)
  have HR2 := Lib.hid hr2; clear hr2 HS0 HR0
  obtain ⟨⟨sm1, sm2, sm3⟩, sm4⟩ := HSM.out rfl
  dsimp only [Fr.parts] at sm1 sm2 sm3 sm4
  clear HSM HRR
  obtain ⟨P0, hP0⟩ : ∃ X, W.put k = X := ⟨_, rfl⟩
  have l0 : P0.length ≤ 5 := hP0 ▸ (W.put_len k).1
  have HP0 := Lib.hid hP0; have HS2 := Lib.hid hs2; have HSM4 := Lib.hid sm4; clear hP0 hs2 sm4
  obtain ⟨d0, d1, d2, d3, d4, d5, d6, d7, d8⟩ := nine_cells bx
  go_wp2_with fail
  clear d0 d1 d2 d3 d4 d5 d6 d7 d8
  refine (rput_any k _).mono ?_
  rintro z w2 ⟨rfl, hb⟩
  replace bx := bx.next hb; replace h1 := h1.fwd hb; replace h2 := h2.fwd hb
  replace hB := hB.trans (hb.mono hB.size)
  clear hb
  rw [HP0.out]
  by_cases k6 : k = 6
  ·
    subst k6
    obtain ⟨P1, hP1⟩ : ∃ X, W.puts [i, n, c, (p.length : Int)] = X := ⟨_, rfl⟩
    obtain ⟨P2, hP2⟩ : ∃ X, W.puts p = X := ⟨_, rfl⟩
    have l1 : P1.length ≤ 20 := by rw [← hP1]; have := W.puts_len [i, n, c, (p.length : Int)]; simpa using this
    have l2 : P2.length ≤ 30 := by rw [← hP2]; have := W.puts_len p; omega
    have hs3 : S = P0 ++ (P1 ++ P2) := by rw [HS2.out, ← HP0.out, ← hP1, ← hP2]; exact Fr.body_6 _ _ _ _ _ _ _ _
    have HS3 := Lib.hid hs3; have HP1 := Lib.hid hP1; have HP2 := Lib.hid hP2; clear hs3 hP1 hP2 HS2 HSM4
    obtain ⟨d0, d1, d2, d3, d4, d5, d6, d7, d8⟩ := nine_cells bx
    go_upto_region 5 with fail
    clear d0 d1 d2 d3 d4 d5 d6 d7 d8
    have H1 := Lib.hid h1; clear h1 H1
    have hbl := bx.lt
    replace h2 := h2.fwd ((Below.refl w2.heap.size w2).drew)
    replace bx := bx.next ((Below.refl _ _).drew)
    replace hB := hB.drew
    have hE := Ext.refl (w2.drew)
    refine region_go 18432 (by kernel_rfl) ?_
    obtain ⟨d0, d1, d2, d3, d4, d5, d6, d7, d8⟩ := nine_cells bx
    refine wpAny_go 18432 0 [1, 2, 3, 4, 5, 6, 7, 8, 9] 1022 9 (by kernel_rfl) (by kernel_rfl) (fun _ _ _ _ _ h => h) (by kernel_rfl) (by rfl) (by rfl) (by kernel_rfl) ?_
    simp only [List.map_cons, List.map_nil, List.getD_cons_succ, List.getD_cons_zero]
    go_wp2_with fail
    change wpAnyM _ _ _ _ _ _ _ _ _ _
    refine wpAny_reads 18432 1022 [12, 13] 13310 7 (by kernel_rfl) (by kernel_rfl) (fun _ _ _ _ _ h => h) (by kernel_rfl) (by rfl) (by rfl) (by kernel_rfl) ?_
    simp only [List.map_cons, List.map_nil, List.getD_cons_succ, List.getD_cons_zero]
    go_wp2_with fail
    change _ → wpAnyM _ _ _ _ _ _ _ _ _ _; intro _
    refine wpAny_takeM 0 rfl (by kernel_rfl) (by rfl : 13310 ||| 2 ^ 0 = 13311) (by kernel_rfl) (by kernel_rfl) (by kernel_rfl) (by kernel_rfl) (fun _ _ _ h => h) (.inl ⟨by rfl, fun w => by (go_simp; try with_reducible rfl)⟩) ?_
    refine wpAny_go 18432 13311 [10] 14335 5 (by kernel_rfl) (by kernel_rfl) (fun _ _ _ _ _ h => h) (by kernel_rfl) (by rfl) (by rfl) (by kernel_rfl) ?_
    simp only [List.map_cons, List.map_nil, List.getD_cons_succ, List.getD_cons_zero]
    go_wp2_with fail
    change wpAnyM _ _ _ _ _ _ _ _ _ _
    clear d0 d1 d2 d3 d4 d5 d6 d7 d8
    refine nameAny fun V hV => ?_
    have hl : SliceIs Rep.int true V 0 V.heap.size (.slice (some ⟨w2.heap.size, 0, none⟩) 4 4) [i, n, c, (p.length : Int)] := hV ▸ lit_ints w2.drew [i, n, c, (p.length : Int)] (by simp)
    have hbV : Below w2.heap.size w2.drew V := hV ▸ (Below.refl w2.heap.size w2.drew).alloc (Nat.le_refl _) (.cells (ints [i, n, c, (p.length : Int)]).toArray 3)
    clear hV
    replace bx := bx.next hbV
    replace h2 := h2.fwd hbV
    replace hB := hB.trans (hbV.mono hB.size)
    replace hE := hE.trans (Ext.below hbV (Nat.le_refl _))
    clear hbV
    refine wpAny_oneM 11 16383 (by kernel_rfl) (by kernel_rfl) (of_decide_eq_true (by kernel_rfl)) (by rfl) ?_
    simp only [List.getD_cons_succ, List.getD_cons_zero]
    go_wp2_with fail
    refine (rputs_any _ _ _ (IsInts.of_slice hl) (by simp)).mono ?_
    rintro e w3 ⟨rfl, hb⟩
    have hbb := hb
    replace bx := bx.next hb
    replace hE := hE.trans (Ext.below hb (Nat.le_refl _))
    replace hB := hB.trans (hb.mono hB.size)
    clear hb
    rw [HP1.out]
    replace h2 := h2.fwd hbb
    clear hl hbb
    go_wp2_with fail
    refine ⟨fun _ => hE, ?_⟩
    refine wpAny_oneM 14 32767 (by kernel_rfl) (by kernel_rfl) (of_decide_eq_true (by kernel_rfl)) (by rfl) ?_
    simp only [List.getD_cons_succ, List.getD_cons_zero]
    go_wp2_with fail
    refine (rputs_any _ _ _ (IsInts.of_slice h2) (by omega)).mono ?_
    rintro e w4 ⟨rfl, hb⟩
    have hbb := hb
    replace bx := bx.next hb
    replace hE := hE.trans (Ext.below hb (Nat.le_refl _))
    replace hB := hB.trans (hb.mono hB.size)
    clear hb
    rw [HP2.out]
    clear hbb
    go_wp2_with fail
    refine ⟨fun _ => hE, ?_⟩
    refine wpAny_go 18432 32767 [15, 16, 17] 262143 0 (by kernel_rfl) (by kernel_rfl) (fun _ _ _ _ _ h => h) (by kernel_rfl) (by rfl) (by rfl) (by kernel_rfl) ?_
    simp only [List.map_cons, List.map_nil, List.getD_cons_succ, List.getD_cons_zero]
    go_wp2_with fail
    change wpAnyM _ _ _ _ _ _ _ _ _ _
    refine wpAny_endM (by kernel_rfl) (by kernel_rfl) ?_
    go_wp2_with fail
    go_ret2
    exact ⟨by rw [HS3.out, HR2.out, ByteArray.mk_append_mk, ByteArray.mk_append_mk]; simp, hB⟩
  have b6 : (k == 6) = false := by simpa using k6
  obtain ⟨P1, hP1⟩ : ∃ X, W.put e = X := ⟨_, rfl⟩
  have l1 : P1.length ≤ 5 := hP1 ▸ (W.put_len e).1
  have HP1 := Lib.hid hP1; clear hP1
  obtain ⟨d0, d1, d2, d3, d4, d5, d6, d7, d8⟩ := nine_cells bx
  go_wp2_with fail
  clear d0 d1 d2 d3 d4 d5 d6 d7 d8
  refine (rput_any e _).mono ?_
  rintro z w3 ⟨rfl, hb⟩
  replace bx := bx.next hb; replace h1 := h1.fwd hb; replace h2 := h2.fwd hb
  replace hB := hB.trans (hb.mono hB.size)
  clear hb
  rw [HP1.out]
  by_cases k0 : k = 0
  ·
    subst k0
    obtain ⟨P2, hP2⟩ : ∃ X, W.put s = X := ⟨_, rfl⟩
    obtain ⟨P3, hP3⟩ : ∃ X, W.put t = X := ⟨_, rfl⟩
    have l2 : P2.length ≤ 5 := hP2 ▸ (W.put_len s).1
    have l3 : P3.length ≤ 5 := hP3 ▸ (W.put_len t).1
    have hs3 : S = P0 ++ P1 ++ (P2 ++ P3) := by rw [HS2.out, ← HP0.out, ← HP1.out, ← hP2, ← hP3]; exact Fr.body_0 _ _ _ _ _ _ _ _
    have hps : ps = [] := HSM4.out (by simp)
    subst hps
    have HS3 := Lib.hid hs3; have HP2 := Lib.hid hP2; have HP3 := Lib.hid hP3; clear hs3 hP2 hP3 HS2 HSM4 h1 h2
    obtain ⟨d0, d1, d2, d3, d4, d5, d6, d7, d8⟩ := nine_cells bx
    go_upto_region 9 with fail
    clear d0 d1 d2 d3 d4 d5 d6 d7 d8
    replace bx := bx.next ((Below.refl _ _).drew)
    replace hB := hB.drew
    have hE := Ext.refl (w3.drew)
    refine region_go 272 (by kernel_rfl) ?_
    obtain ⟨d0, d1, d2, d3, d4, d5, d6, d7, d8⟩ := nine_cells bx
    refine wpAny_go 272 0 [1, 2, 3] 14 9 (by kernel_rfl) (by kernel_rfl) (fun _ _ _ _ _ h => h) (by kernel_rfl) (by rfl) (by rfl) (by kernel_rfl) ?_
    simp only [List.map_cons, List.map_nil, List.getD_cons_succ, List.getD_cons_zero]
    go_wp2_with fail
    change wpAnyM _ _ _ _ _ _ _ _ _ _
    refine wpAny_reads 272 14 [5, 6, 7] 238 6 (by kernel_rfl) (by kernel_rfl) (fun _ _ _ _ _ h => h) (by kernel_rfl) (by rfl) (by rfl) (by kernel_rfl) ?_
    simp only [List.map_cons, List.map_nil, List.getD_cons_succ, List.getD_cons_zero]
    go_wp2_with fail
    change _ → wpAnyM _ _ _ _ _ _ _ _ _ _; intro _
    clear d0 d1 d2 d3 d4 d5 d6 d7 d8
    refine wpAny_takeM 0 rfl (by kernel_rfl) (by rfl : 238 ||| 2 ^ 0 = 239) (by kernel_rfl) (by kernel_rfl) (by kernel_rfl) (by kernel_rfl) (fun _ _ _ h => h) (.inl ⟨by rfl, fun w => by (go_simp; try with_reducible rfl)⟩) ?_
    refine wpAny_oneM 4 255 (by kernel_rfl) (by kernel_rfl) (of_decide_eq_true (by kernel_rfl)) (by rfl) ?_
    simp only [List.getD_cons_succ, List.getD_cons_zero]
    go_wp2_with fail
    refine (rput_any s _).mono ?_
    rintro e w4 ⟨rfl, hb⟩
    replace bx := bx.next hb
    replace hE := hE.trans (Ext.below hb (Nat.le_refl _))
    replace hB := hB.trans (hb.mono hB.size)
    clear hb
    rw [HP2.out]
    go_wp2_with fail
    refine ⟨fun _ => hE, ?_⟩
    refine wpAny_oneM 8 511 (by kernel_rfl) (by kernel_rfl) (of_decide_eq_true (by kernel_rfl)) (by rfl) ?_
    simp only [List.getD_cons_succ, List.getD_cons_zero]
    go_wp2_with fail
    refine (rput_any t _).mono ?_
    rintro e w5 ⟨rfl, hb⟩
    replace bx := bx.next hb
    replace hE := hE.trans (Ext.below hb (Nat.le_refl _))
    replace hB := hB.trans (hb.mono hB.size)
    clear hb
    rw [HP3.out]
    go_wp2_with fail
    refine ⟨fun _ => hE, ?_⟩
    refine wpAny_go 272 511 [9, 10, 11] 4095 0 (by kernel_rfl) (by kernel_rfl) (fun _ _ _ _ _ h => h) (by kernel_rfl) (by rfl) (by rfl) (by kernel_rfl) ?_
    simp only [List.map_cons, List.map_nil, List.getD_cons_succ, List.getD_cons_zero]
    go_wp2_with fail
    change wpAnyM _ _ _ _ _ _ _ _ _ _
    refine wpAny_endM (by kernel_rfl) (by kernel_rfl) ?_
    obtain ⟨d0, d1, d2, d3, d4, d5, d6, d7, d8⟩ := nine_cells bx
    go_wp2_with fail
    clear d0 d1 d2 d3 d4 d5 d6 d7 d8
    have HB := Lib.hid hB; clear hB
    have hst : (.string (⟨P0.toArray⟩ ++ ⟨P1.toArray⟩ ++ (⟨P2.toArray⟩ ++ ⟨P3.toArray⟩)) : Value) = .string ⟨S.toArray⟩ := by rw [HS3.out, ByteArray.mk_append_mk, ByteArray.mk_append_mk, ByteArray.mk_append_mk]
    have HST := Lib.hid hst; clear hst
    go_loopg [4, 5] 0 (fun k s i wr => s = .string ⟨S.toArray⟩ ∧ i = .int .i64 0 ∧ k = 0 ∧ Below w5.heap.size w5 wr)
    case atStart => exact ⟨HST.out, rfl, rfl, Below.refl _ _⟩
    case round =>
      obtain ⟨rfl, rfl, rfl, hb⟩ := hrel
      obtain ⟨d0, d1, d2, d3, d4, d5, d6, d7, d8⟩ := nine_cells (bx.next hb)
      go_wp2_with fail
      clear d0 d1 d2 d3 d4 d5 d6 d7 d8
      go_ret2
      exact ⟨by rw [HR2.out]; rfl, HB.out.trans (hb.mono HB.out.size)⟩
  have b0 : (k == 0) = false := by simpa using k0
  by_cases k5 : k = 5
  ·
    subst k5
    have HR := Lib.hid (sm2 rfl); clear sm2
    obtain ⟨P2, hP2⟩ : ∃ X, W.put (ps.length : Int) = X := ⟨_, rfl⟩
    have l2 : P2.length ≤ 5 := hP2 ▸ (W.put_len _).1
    have hs3 : S = (P0 ++ P1 ++ P2) ++ Fr.texts ps := by rw [HS2.out, ← HP0.out, ← HP1.out, ← hP2]; exact Fr.body_5 _ _ _ _ _ _ _ _
    have HS3 := Lib.hid hs3; have HP2 := Lib.hid hP2; clear hs3 hP2 HS2 HSM4
    obtain ⟨d0, d1, d2, d3, d4, d5, d6, d7, d8⟩ := nine_cells bx
    go_wp2_with fail
    clear d0 d1 d2 d3 d4 d5 d6 d7 d8
    refine (rput_any _ _).mono ?_
    rintro z w4 ⟨rfl, hb⟩
    replace bx := bx.next hb; replace h1 := h1.fwd hb; replace h2 := h2.fwd hb
    replace hB := hB.trans (hb.mono hB.size)
    clear hb
    rw [HP2.out]
    obtain ⟨Y, hY⟩ : ∃ Y, P0 ++ P1 ++ P2 = Y := ⟨_, rfl⟩
    have hYl : Y.length ≤ 15 := by rw [← hY]; simp only [List.length_append]; omega
    have hYb : (⟨P0.toArray⟩ ++ ⟨P1.toArray⟩ ++ ⟨P2.toArray⟩ : ByteArray) = ⟨Y.toArray⟩ := by rw [ByteArray.mk_append_mk, ByteArray.mk_append_mk, ← hY]
    rw [hY] at HS3
    have HYB := Lib.hid hYb; clear hY hYb
    have H1 := Lib.hid h1; have HB := Lib.hid hB; clear h1 h2 hB
    obtain ⟨d0, d1, d2, d3, d4, d5, d6, d7, d8⟩ := nine_cells bx
    go_wp2_with fail
    clear d0 d1 d2 d3 d4 d5 d6 d7 d8
    go_loopg [4, 5] ps.length (fun k s i wr => ∃ (j : Nat) (l : List UInt8), i = .int .i64 (j : Int) ∧ j ≤ ps.length ∧ k = ps.length - j ∧ s = .string ⟨l.toArray⟩ ∧ l = Y ++ Fr.texts (ps.take j) ∧ l.length ≤ 15 + 40005 * j ∧ Below w4.heap.size w4 wr)
    case atStart => exact ⟨0, Y, rfl, by omega, by omega, by rw [HYB.out], by simp [Fr.texts], by omega, Below.refl _ _⟩
    case round =>
      obtain ⟨j, l, rfl, hj, hk, rfl, hl, hll, hb⟩ := hrel
      have HL := Lib.hid hl; have HK := Lib.hid hk; clear hl hk
      by_cases hlt : j < ps.length
      ·
        obtain ⟨u, hu⟩ := Pc.get_at hlt
        obtain ⟨g, o, a3, a4, a5, he, _, hg, c0, c1, c2, c3, c4, c5, hp⟩ := (H1.out.fwd hb).arr.piece hu
        subst he
        have hru : Pc.right u = true := HR.out u (List.mem_of_getElem? hu)
        have hel := Fr.enc_le hru
        have hxl := Fr.text_le hru
        have htk := Fr.texts_take hu
        have HT := Lib.hid htk; clear hu htk hru
        obtain ⟨_, _, _, he, ⟨A3, l3, rfl, _⟩, ⟨A4, l4, rfl, _⟩, ⟨A5, l5, rfl, _⟩⟩ := id hp
        cases he
        have HP := Lib.hid hp; clear hp
        obtain ⟨d0, d1, d2, d3, d4, d5, d6, d7, d8⟩ := nine_cells (bx.next hb)
        go_wp2_with fail
        clear d0 d1 d2 d3 d4 d5 d6 d7 d8
        clear c0 c1 c2 c3 c4 c5
        refine (rencode_any _ u _ HP.out).mono ?_
        rintro z w8 ⟨rfl, hb3⟩
        obtain ⟨E, hE⟩ : ∃ E, Pc.enc u = E := ⟨_, rfl⟩
        rw [hE] at hel hxl HT ⊢
        obtain ⟨ER, hER⟩ : ∃ E, Pc.err u = E := ⟨_, rfl⟩
        rw [hER]
        clear hE hER HP
        replace hb := hb.trans (hb3.mono hb.size)
        clear hb3
        go_wp2_with fail
        refine (rtext_any ⟨E.toArray⟩ _ (by show E.toArray.size ≤ 1000000000; simp; omega)).mono ?_
        rintro z w9 ⟨rfl, hb4⟩
        replace hb := hb.trans (hb4.mono hb.size)
        clear hb4
        rw [show (⟨E.toArray⟩ : ByteArray).data.toList = E from by simp]
        obtain ⟨TT, hTT⟩ : ∃ X, W.text E = X := ⟨_, rfl⟩
        rw [hTT] at hxl HT ⊢
        clear hTT
        go_wp2_with fail
        go_roundg (ps.length - (j + 1))
        case rel => exact ⟨j + 1, l ++ TT, by simp, by omega, rfl, by rw [ByteArray.mk_append_mk], by rw [HL.out, HT.out, List.append_assoc], by rw [List.length_append]; omega, hb⟩
        case measure => have := HK.out; omega
      ·
        rw [List.take_of_length_le (by omega)] at HL
        have hlX : l = S := HL.out.trans HS3.out.symm
        subst hlX
        obtain ⟨d0, d1, d2, d3, d4, d5, d6, d7, d8⟩ := nine_cells (bx.next hb)
        go_wp2_with fail
        clear d0 d1 d2 d3 d4 d5 d6 d7 d8
        go_ret2
        exact ⟨by rw [HR2.out]; rfl, HB.out.trans (hb.mono HB.out.size)⟩
  have b5 : (k == 5) = false := by simpa using k5
  have hps : ps = [] := HSM4.out k5
  subst hps
  have hs3 : S = P0 ++ P1 := by rw [HS2.out, ← HP0.out, ← HP1.out]; exact Fr.body_n k0 k5 k6 _ _ _ _ _ _ _ _
  have HS3 := Lib.hid hs3; clear hs3 HS2 HSM4 h1 h2
  obtain ⟨d0, d1, d2, d3, d4, d5, d6, d7, d8⟩ := nine_cells bx
  go_wp2_with fail
  clear d0 d1 d2 d3 d4 d5 d6 d7 d8
  have HB := Lib.hid hB; clear hB
  have hst : (.string (⟨P0.toArray⟩ ++ ⟨P1.toArray⟩) : Value) = .string ⟨S.toArray⟩ := by rw [HS3.out, ByteArray.mk_append_mk]
  have HST := Lib.hid hst; clear hst
  go_loopg [4, 5] 0 (fun k s i wr => s = .string ⟨S.toArray⟩ ∧ i = .int .i64 0 ∧ k = 0 ∧ Below w3.heap.size w3 wr)
  case atStart => exact ⟨HST.out, rfl, rfl, Below.refl _ _⟩
  case round =>
    obtain ⟨rfl, rfl, rfl, hb⟩ := hrel
    obtain ⟨d0, d1, d2, d3, d4, d5, d6, d7, d8⟩ := nine_cells (bx.next hb)
    go_wp2_with fail
    clear d0 d1 d2 d3 d4 d5 d6 d7 d8
    go_ret2
    exact ⟨by rw [HR2.out]; rfl, HB.out.trans (hb.mono HB.out.size)⟩
end Go.Proofs.Ytdfgnmdofjhnkaa

/- Rows of the call's own that lead to what was there; the law's Refs of pieces; slices.Clone of pieces. -/
namespace Go.Proofs.Ytdfgnmdofjhnkaa
open Go.RowKit

theorem Try.infoRPiece : (Try.prog.info? 32).map (fun i => (i.zero, i.size, i.bytes)) = some (some (.agg #[.int .i64 0, .int .i64 0, .int .i64 0, .slice none 0 0, .slice none 0 0, .slice none 0 0]), 6, 96) := by kernel_rfl
theorem Try.infoPiece : (Try.prog.info? 26).map (fun i => (i.zero, i.size, i.bytes)) = some (some (.agg #[.int .i64 0, .int .i64 0, .int .i64 0, .slice none 0 0, .slice none 0 0, .slice none 0 0]), 6, 96) := by kernel_rfl

/-- v: a row of the call's own, in blocks from B on, whose elements lead to blocks ahead of hi. -/
def Top {α : Type} (r : Rep α) (e : TypeId) (hi B : Nat) (w : World) (v : Value) (xs : List α) : Prop :=
  ∃ cells, w.ownsRow B e r.size v xs.length cells ∧ r.all false w (rng 0 hi) cells xs
section
variable {α : Type} {r : Rep α} {e : TypeId} {hi B : Nat} {w w' : World} {v : Value} {xs : List α}
theorem Top.next (h : Top r e hi B w v xs) (hb : Below w.heap.size w w') (hB : hi ≤ w.heap.size) : Top r e hi B w' v xs := by
  obtain ⟨cells, h1, h2⟩ := h
  exact ⟨cells, own_below h1 hb, Rep.all_keep (fun b hb' => hb.block b (Nat.lt_of_lt_of_le hb'.2 hB)) h2⟩
theorem Top.slice (h : Top r e hi B w v xs) : SliceOn r false w (fun b => b < hi ∨ (B ≤ b ∧ b < w.heap.size)) v xs := by
  obtain ⟨cells, h1, h2⟩ := h
  exact SliceOn.of_own (base := B) (e := e) h1 (Rep.all_widen (fun b hb => .inl hb.2) h2) (fun g hg => .inr (h1.lt g hg))
theorem Top.empty (r : Rep α) (e : TypeId) (hi : Nat) (w : World) : Top r e hi w.heap.size (w.alloc (.cells #[] e)) (.slice (some ⟨w.heap.size, 0, none⟩) 0 0) [] :=
  ⟨[], own_lit (size := r.size) w.heap.size e 0 [] (by simp) (Nat.le_refl _) (by unfold maxLen; omega), rfl⟩
end
section
variable {P : Program} {w : World} {ops : Array Oper} {rest : List Oper} {o : Oper} {a : Act} {Q : Exit → Act → World → Prop}
theorem wpList_topB {α : Type} {r : Rep α} {xs : List α} {y : α} (hgd : o.guard = none) (s x : Operand) (t : TypeId) (ho : o.op = .call { callee := .builtin .append, args := #[s, x], argTypes := #[t, t] })
    (B : Nat) (e : TypeId) {z : Value} {bytes : Nat} (hinfo : (P.info? e).map (fun i => (i.zero, i.size, i.bytes)) = some (some z, r.size, bytes)) (ht : P.underlying t = some (.slice e))
    (hzs : z.cells.size = r.size) (hby : bytes ≤ 1000) (v : Value) (hs : a.eval s = v) {hi : Nat} (hrow : Top r e hi B w v xs) (hB : B ≤ w.heap.size) (hhi : hi ≤ B)
    (c H : Nat) (cs : List Value) (hx : a.eval x = .slice (some ⟨H, 0, none⟩) 1 c) (hH : w.heap.size = H) (hcs : r.is false w (rng 0 hi) cs y) (hn : xs.length ≤ 1000000)
    (h : ∀ v' w', Top r e hi B w' v' (xs ++ [y]) → Below B w w' → wpList P ops Q rest (a.put o.dst v') w') : wpList P ops Q (o :: rest) a (w.alloc (.cells cs.toArray e)) := by
  obtain ⟨cells, h1, h2⟩ := hrow
  refine wpList_appendB hgd s x t ho B e hinfo ht hzs r.pos v xs.length cells hs h1 1 c H cs hx hH (by rw [r.len hcs]; omega) (r.one hcs) (by unfold maxLen; omega) (Nat.le_trans (Nat.mul_le_mul (show xs.length + 1 ≤ 1000001 by omega) hby) (by omega)) hB ?_
  intro v' w' k1 _ k3 _
  have hk : ∀ b, rng 0 hi b → w'.heap[b]? = w.heap[b]? := fun b hb => k3.block b (Nat.lt_of_lt_of_le hb.2 hhi)
  exact h v' w' ⟨cells ++ cs, by rw [List.length_append]; exact k1, Rep.all_snoc (Rep.all_keep hk h2) (r.keep hcs hk)⟩ k3
end

set_option maxRecDepth 100000 in
set_option maxHeartbeats 2000000 in
theorem refs_any (v : Value) (ps : List Pc.Piece) (w : World) {hi : Nat} (h : SliceIs Rep.piece false w 0 hi v ps) (hhi : hi ≤ w.heap.size) (hn : ps.length ≤ 1000000) : Calls Try.prog 71 #[v] w
    fun y w' => (∃ u, y = .returned u ∧ SliceOn Rep.piece false w' (fun b => b < hi ∨ (w.heap.size ≤ b ∧ b < w'.heap.size)) u ps) ∧ Below w.heap.size w w' := by
  obtain ⟨A, c, rfl, l1, m1, h1⟩ := h
  unfold maxLen at m1
  go_enter Try.func71, Try.ntmps71
  go_wp2_with fail
  go_loopg [3, 4] ps.length (fun k u i wr => ∃ j : Nat, i = .int .i64 (j : Int) ∧ j ≤ ps.length ∧ k = ps.length - j ∧ Top Rep.piece 32 hi w.heap.size wr u (ps.take j) ∧ Below w.heap.size w wr)
  case atStart => exact ⟨0, rfl, by omega, by omega, Top.empty _ _ _ _, (Below.refl _ _).alloc (Nat.le_refl _) _⟩
  case round =>
    obtain ⟨j, rfl, hj, hk, ht, hb⟩ := hrel
    have HK := Lib.hid hk; clear hk
    by_cases hlt : j < ps.length
    · obtain ⟨x, hx⟩ := Pc.get_at hlt
      obtain ⟨g, o, a3, a4, a5, rfl, _, hg, c0, c1, c2, c3, c4, c5, hp⟩ := (h1.below hb hhi).piece hx
      have htk := Pc.take_next hx
      have HT := Lib.hid htk; clear htk hx h1
      obtain ⟨_, _, _, he, ⟨A3, k3, rfl, _⟩, ⟨A4, k4, rfl, _⟩, ⟨A5, k5, rfl, _⟩⟩ := id hp
      cases he
      have hpw := hp.widen (Nat.le_refl 0) (Nat.le_trans hhi hb.size)
      have HP := Lib.hid hp; have HPW := Lib.hid hpw; clear hp hpw
      have hnl : (ps.take j).length ≤ 1000000 := by rw [List.length_take]; omega
      go_wp2_with fail
      clear c0 c1 c2 c3 c4 c5
      refine (ref_any _ x _ HPW.out).mono ?_
      rintro e w1 ⟨rfl, hb1⟩
      have ht1 := ht.next hb1 (Nat.le_trans hhi hb.size)
      have hp1 := HP.out.below (hb1.mono hb.size) hhi
      obtain ⟨cs, hcv, hcs⟩ := hp1.cells
      have hce : cs = [.int .i64 x.node, .int .i64 x.state, .int .i64 x.steps, .slice A3 x.sent.length k3, .slice A4 x.inn.length k4, .slice A5 x.out.length k5] := by
        injection hcv with hcv
        have := congrArg Array.toList hcv
        simpa using this.symm
      subst hce
      have HC := Lib.hid hcs; clear hcs hcv hp1 ht
      replace hb := hb.trans (hb1.mono hb.size)
      clear hb1 HP HPW
      go_wp2_with (at_builtin; refine wpList_topB (r := Rep.piece) (y := x) rfl (.tmp 12) (.tmp 18) 62 rfl w.heap.size 32 Try.infoRPiece Try.underlying62 rfl (by omega) _ rfl ht1 hb.size hhi 1 _ _ rfl rfl HC.out hnl ?_; intro v2 w2 hnew hb3)
      rw [← HT.out] at hnew
      go_roundg (ps.length - (j + 1))
      case rel => exact ⟨j + 1, by simp, by omega, rfl, hnew, hb.trans hb3⟩
      case measure => have := HK.out; omega
    · rw [List.take_of_length_le (by omega)] at ht
      have hs := ht.slice
      have HS := Lib.hid hs; clear hs ht
      go_wp2_with fail
      go_ret
      exact ⟨⟨_, rfl, HS.out⟩, hb⟩
end Go.Proofs.Ytdfgnmdofjhnkaa

/- Nine cells written; the law's Ref of a frame. -/
namespace Go.Proofs.Ytdfgnmdofjhnkaa
open Go.RowKit

section
variable {w : World} {b : Nat} {T : TypeId} {x0 x1 x2 x3 x4 x5 x6 x7 x8 a0 a1 a2 a3 a4 a5 a6 a7 a8 : Value}
/-- A world in which nine cells of block b were written. -/
def wnine (w : World) (b : Nat) (a0 a1 a2 a3 a4 a5 a6 a7 a8 : Value) : World := (((((((((w.setCell ⟨b, 0, none⟩ a0).setCell ⟨b, 1, none⟩ a1).setCell ⟨b, 2, none⟩ a2).setCell ⟨b, 3, none⟩ a3).setCell ⟨b, 4, none⟩ a4).setCell ⟨b, 5, none⟩ a5).setCell ⟨b, 6, none⟩ a6).setCell ⟨b, 7, none⟩ a7).setCell ⟨b, 8, none⟩ a8)
theorem nine_box (h : Box w b #[x0, x1, x2, x3, x4, x5, x6, x7, x8] T) : Box (wnine w b a0 a1 a2 a3 a4 a5 a6 a7 a8) b #[a0, a1, a2, a3, a4, a5, a6, a7, a8] T := by
  have h0 : Box (w.setCell ⟨b, 0, none⟩ a0) b #[a0, x1, x2, x3, x4, x5, x6, x7, x8] T := blk_set h 0 a0
  have h1 : Box ((w.setCell ⟨b, 0, none⟩ a0).setCell ⟨b, 1, none⟩ a1) b #[a0, a1, x2, x3, x4, x5, x6, x7, x8] T := blk_set h0 1 a1
  have h2 : Box (((w.setCell ⟨b, 0, none⟩ a0).setCell ⟨b, 1, none⟩ a1).setCell ⟨b, 2, none⟩ a2) b #[a0, a1, a2, x3, x4, x5, x6, x7, x8] T := blk_set h1 2 a2
  have h3 : Box ((((w.setCell ⟨b, 0, none⟩ a0).setCell ⟨b, 1, none⟩ a1).setCell ⟨b, 2, none⟩ a2).setCell ⟨b, 3, none⟩ a3) b #[a0, a1, a2, a3, x4, x5, x6, x7, x8] T := blk_set h2 3 a3
  have h4 : Box (((((w.setCell ⟨b, 0, none⟩ a0).setCell ⟨b, 1, none⟩ a1).setCell ⟨b, 2, none⟩ a2).setCell ⟨b, 3, none⟩ a3).setCell ⟨b, 4, none⟩ a4) b #[a0, a1, a2, a3, a4, x5, x6, x7, x8] T := blk_set h3 4 a4
  have h5 : Box ((((((w.setCell ⟨b, 0, none⟩ a0).setCell ⟨b, 1, none⟩ a1).setCell ⟨b, 2, none⟩ a2).setCell ⟨b, 3, none⟩ a3).setCell ⟨b, 4, none⟩ a4).setCell ⟨b, 5, none⟩ a5) b #[a0, a1, a2, a3, a4, a5, x6, x7, x8] T := blk_set h4 5 a5
  have h6 : Box (((((((w.setCell ⟨b, 0, none⟩ a0).setCell ⟨b, 1, none⟩ a1).setCell ⟨b, 2, none⟩ a2).setCell ⟨b, 3, none⟩ a3).setCell ⟨b, 4, none⟩ a4).setCell ⟨b, 5, none⟩ a5).setCell ⟨b, 6, none⟩ a6) b #[a0, a1, a2, a3, a4, a5, a6, x7, x8] T := blk_set h5 6 a6
  have h7 : Box ((((((((w.setCell ⟨b, 0, none⟩ a0).setCell ⟨b, 1, none⟩ a1).setCell ⟨b, 2, none⟩ a2).setCell ⟨b, 3, none⟩ a3).setCell ⟨b, 4, none⟩ a4).setCell ⟨b, 5, none⟩ a5).setCell ⟨b, 6, none⟩ a6).setCell ⟨b, 7, none⟩ a7) b #[a0, a1, a2, a3, a4, a5, a6, a7, x8] T := blk_set h6 7 a7
  exact blk_set h7 8 a8
theorem nine_far {k : Nat} (hk : k ≠ b) : (wnine w b a0 a1 a2 a3 a4 a5 a6 a7 a8).heap[k]? = w.heap[k]? := by
  have o : ∀ (w0 : World) (i : Nat) (u : Value), (w0.setCell ⟨b, i, none⟩ u).heap[k]? = w0.heap[k]? := fun w0 i u => heap_setCell_other _ _ _ _ hk
  unfold wnine; rw [o, o, o, o, o, o, o, o, o]
theorem nine_size : (wnine w b a0 a1 a2 a3 a4 a5 a6 a7 a8).heap.size = w.heap.size := by simp [wnine, World.setCell]
theorem nine_below {B : Nat} {w0 : World} (h : Below B w0 w) (hB : B ≤ b) : Below B w0 (wnine w b a0 a1 a2 a3 a4 a5 a6 a7 a8) := ((((((((h.setCell hB _).setCell hB _).setCell hB _).setCell hB _).setCell hB _).setCell hB _).setCell hB _).setCell hB _).setCell hB _
end

set_option maxRecDepth 100000 in
set_option maxHeartbeats 4000000 in
theorem frref_any (v : Value) (f : Fr) (w : World) (h : FrIs false w 0 w.heap.size v f) (hn : f.pieces.length ≤ 1000000) : Calls Try.prog 33 #[v] w
    fun z w' => (∃ u, z = .returned u ∧ FrIs false w' 0 w'.heap.size u f) ∧ Below w.heap.size w w' := by
  obtain ⟨k, e, s, t, ps, i, n, c, p⟩ := f
  obtain ⟨A, B, x, y, rfl, h1, h2⟩ := h
  dsimp only at h1 h2 hn ⊢
  go_enter Try.func33, Try.ntmps33
  go_upto_region 1 with fail
  refine name_wp fun W0 hW0 => ?_
  have bx : Box W0 w.heap.size #[.int .i64 k, .int .i64 e, .int .i64 s, .int .i64 t, .slice A ps.length x, .int .i64 i, .int .i64 n, .int .i64 c, .slice B p.length y] 58 := hW0 ▸ (Box.at' _ _ rfl).alloc _
  have b2 : Box W0 (w.heap.size + 1) #[.int .i64 0, .int .i64 0, .int .i64 0, .int .i64 0, .slice none 0 0, .int .i64 0, .int .i64 0, .int .i64 0, .slice none 0 0] 64 := hW0 ▸ Box.at' _ _ (by simp)
  have hB : Below w.heap.size w W0 := hW0 ▸ ((Below.refl _ _).alloc (Nat.le_refl _) _).alloc (by simp) _
  have hP := h1.below hB (Nat.le_refl _); have hQ := h2.below hB (Nat.le_refl _)
  have hE2 : w.heap.size + 1 < W0.heap.size := hW0 ▸ (by simp)
  have HE2 := Lib.hid hE2; clear hE2
  clear hW0 h1 h2
  have hne : w.heap.size ≠ w.heap.size + 1 := by omega
  have hE0 := hB.size
  replace hP := hP.below ((Below.refl w.heap.size W0).drew) (Nat.le_refl _); replace hQ := hQ.below ((Below.refl w.heap.size W0).drew) (Nat.le_refl _)
  replace bx := bx.next ((Below.refl _ _).drew)
  replace b2 := b2.next ((Below.refl _ _).drew)
  replace hB := hB.drew
  have hE := Ext.refl (W0.drew)
  refine region_go 256 (by kernel_rfl) ?_
  obtain ⟨d0, d1, d2, d3, d4, d5, d6, d7, d8⟩ := nine_cells bx
  refine wpAny_go 256 0 [6, 7] 192 17 (by kernel_rfl) (by kernel_rfl) (fun _ _ _ _ _ h => h) (by kernel_rfl) (by rfl) (by rfl) (by kernel_rfl) ?_
  simp only [List.map_cons, List.map_nil, List.getD_cons_succ, List.getD_cons_zero]
  go_wp2_with fail
  change wpAnyM _ _ _ _ _ _ _ _ _ _
  refine wpAny_reads 256 192 [0, 1, 2, 3, 4, 5, 9, 10, 11, 12, 13, 14, 15, 16] 130815 3 (by kernel_rfl) (by kernel_rfl) (fun _ _ _ _ _ h => h) (by kernel_rfl) (by rfl) (by rfl) (by kernel_rfl) ?_
  simp only [List.map_cons, List.map_nil, List.getD_cons_succ, List.getD_cons_zero]
  go_wp2_with fail
  change _ → wpAnyM _ _ _ _ _ _ _ _ _ _; intro _
  clear d0 d1 d2 d3 d4 d5 d6 d7 d8
  refine wpAny_oneM 8 131071 (by kernel_rfl) (by kernel_rfl) (of_decide_eq_true (by kernel_rfl)) (by rfl) ?_
  simp only [List.getD_cons_succ, List.getD_cons_zero]
  go_wp2_with fail
  refine (refs_any _ ps _ hP hE0 hn).mono ?_
  rintro e w1 ⟨⟨u, rfl, hu⟩, hb⟩
  replace hQ := hQ.below (hb.mono hE0) (Nat.le_refl _)
  replace bx := bx.next hb
  replace b2 := b2.next hb
  replace hE := hE.trans (Ext.below hb (Nat.le_refl _))
  replace hB := hB.trans (hb.mono hB.size)
  clear hb
  obtain ⟨A2, x2, rfl, _⟩ := id hu
  go_wp2_with fail
  refine ⟨fun _ => hE, ?_⟩
  obtain ⟨g0, g1, g2, g3, g4, g5, g6, g7, g8⟩ := nine_cells b2
  obtain ⟨f0, f1, f2, f3, f4, f5, f6, f7, f8⟩ := nine_free b2
  refine wpAny_go 256 131071 [17, 18] 524287 0 (by kernel_rfl) (by kernel_rfl) (fun _ _ _ _ _ h => h) (by kernel_rfl) (by rfl) (by rfl) (by kernel_rfl) ?_
  simp only [List.map_cons, List.map_nil, List.getD_cons_succ, List.getD_cons_zero]
  go_wp2_with fail
  change wpAnyM _ _ _ _ _ _ _ _ _ _
  clear g0 g1 g2 g3 g4 g5 g6 g7 g8 f0 f1 f2 f3 f4 f5 f6 f7 f8
  refine nameAny fun V hV => ?_
  have b3 : Box V (w.heap.size + 1) #[.int .i64 k, .int .i64 e, .int .i64 s, .int .i64 t, .slice A2 ps.length x2, .int .i64 i, .int .i64 n, .int .i64 c, .slice B p.length y] 64 := by rw [← hV]; exact nine_box b2
  have hBV : Below w.heap.size w V := by rw [← hV]; exact nine_below hB (Nat.le_succ _)
  have hs9 : V.heap.size = w1.heap.size := by rw [← hV]; exact nine_size
  have hk9 : ∀ q, q ≠ w.heap.size + 1 → V.heap[q]? = w1.heap[q]? := fun q hq => by rw [← hV]; exact nine_far hq
  have hb2l := b2.lt
  have hD : W0.drew.heap.size = W0.heap.size := by simp
  have hE3 := HE2.out
  have hfu : FrIs false V 0 V.heap.size (.agg #[.int .i64 k, .int .i64 e, .int .i64 s, .int .i64 t, .slice A2 ps.length x2, .int .i64 i, .int .i64 n, .int .i64 c, .slice B p.length y]) ⟨k, e, s, t, ps, i, n, c, p⟩ := FrIs.of (f := ⟨k, e, s, t, ps, i, n, c, p⟩) (SliceOn.is_ ((hu.keep fun q hq => hk9 q (by omega)).widen fun q hq => ⟨Nat.zero_le _, by omega⟩)) ((hQ.keep fun q _ hq => hk9 q (by omega)).widen (Nat.le_refl 0) (by omega))
  clear hD hE3
  refine wpAny_endM (by kernel_rfl) (by kernel_rfl) ?_
  obtain ⟨g0, g1, g2, g3, g4, g5, g6, g7, g8⟩ := nine_cells b3
  go_wp2_with fail
  refine bodyPost_ret (v := .agg #[.int .i64 k, .int .i64 e, .int .i64 s, .int .i64 t, .slice A2 ps.length x2, .int .i64 i, .int .i64 n, .int .i64 c, .slice B p.length y]) (by simp [results, Try.results33, g0, g1, g2, g3, g4, g5, g6, g7, g8, go_sem]) rfl ⟨⟨_, rfl, hfu⟩, hBV⟩
end Go.Proofs.Ytdfgnmdofjhnkaa

/- Rows of the call's own that lie apart; appends of whole slices to them (as in XHRow). Nothing of the program. -/
namespace Go.Proofs.Ytdfgnmdofjhnkaa
open Go.RowKit

/-- v: a row of the call's own, in block b (from B on), that reads as xs. -/
def Row {α : Type} (r : Rep α) (e : TypeId) (B : Nat) (w : World) (b : Option Nat) (v : Value) (xs : List α) : Prop :=
  ∃ cells, w.ownsRow B e r.size v xs.length cells ∧ r.all true w (fun _ => False) cells xs ∧ v.ownBlock = b
/-- Two rows' blocks are not the same one. -/
def Apart (b c : Option Nat) : Prop := ∀ k, b = some k → c = some k → False
theorem Apart.symm {b c : Option Nat} (h : Apart b c) : Apart c b := fun k h1 h2 => h k h2 h1
section
variable {α β : Type} {r : Rep α} {r2 : Rep β} {e e2 : TypeId} {B B2 : Nat} {w w' : World} {v u : Value} {xs : List α} {ys : List β} {b c b' : Option Nat}
theorem Row.lt (h : Row r e B w b v xs) {k : Nat} (hk : b = some k) : B ≤ k ∧ k < w.heap.size := by
  obtain ⟨cells, h1, _, h3⟩ := h
  exact h1.lt k (h3.trans hk)
theorem Row.base {B' : Nat} (h : Row r e B w b v xs) (hB : B' ≤ B) : Row r e B' w b v xs := by
  obtain ⟨cells, h1, h2, h3⟩ := h
  exact ⟨cells, own_base h1 hB, h2, h3⟩
theorem Row.keep (h : Row r e B w b v xs) (hk : ∀ k, b = some k → w'.heap[k]? = w.heap[k]?) : Row r e B w' b v xs := by
  obtain ⟨cells, h1, h2, h3⟩ := h
  refine ⟨cells, ⟨h1.1, ?_⟩, Rep.all_keep (fun _ h => h.elim) h2, h3⟩
  rcases h1.2 with h4 | ⟨g, cap, cur, hv, hg, hh, hr⟩
  · exact .inl h4
  · have : b = some g := by rw [← h3, hv]; rfl
    exact .inr ⟨g, cap, cur, hv, hg, (hk g this).trans hh, hr⟩
theorem Row.next (h : Row r e B w b v xs) (hb : Below w.heap.size w w') : Row r e B w' b v xs := h.keep fun k hk => hb.block k (h.lt hk).2
theorem Row.grown (h : Row r2 e2 B2 w c u ys) (hg : w.grownBy w' b) (ha : Apart b c) : Row r2 e2 B2 w' c u ys := h.keep fun k hk => hg.block k (h.lt hk).2 fun he => ha k he.symm hk
theorem Apart.next (ha : Apart b c) (h : Row r2 e2 B2 w c u ys) (h4 : b' = b ∨ ∃ k, b' = some k ∧ w.heap.size ≤ k) : Apart b' c := by
  intro k h1 h2
  rcases h4 with rfl | ⟨n, rfl, hn⟩
  · exact ha k h1 h2
  · cases h1; have := (h.lt h2).2; omega
theorem Row.slice (h : Row r e B w b v xs) : SliceIs r true w B w.heap.size v xs := by
  obtain ⟨cells, h1, h2, h3⟩ := h
  exact SliceOn.of_own (base := B) (e := e) h1 (Rep.all_widen (fun _ h => h.elim) h2) (fun k hk => h1.lt k hk)
theorem Row.got (h : Row r e B w b v xs) : SliceIs r false w 0 w.heap.size v xs := (h.slice.widen (Nat.zero_le _) (Nat.le_refl _)).soft
theorem Row.form (h : Row r e B w b v xs) : ∃ A cap, v = .slice A xs.length cap ∧ xs.length ≤ cap ∧ cap ≤ maxLen := by
  obtain ⟨A, c, rfl, h1, h2, _⟩ := h.slice
  exact ⟨A, c, rfl, h1, h2⟩
theorem Row.empty (r : Rep α) (e : TypeId) (w : World) : Row r e w.heap.size (w.alloc (.cells #[] e)) (some w.heap.size) (.slice (some ⟨w.heap.size, 0, none⟩) 0 0) [] :=
  ⟨[], own_lit (size := r.size) w.heap.size e 0 [] (by simp) (Nat.le_refl _) (by unfold maxLen; omega), rfl, rfl⟩
end
section
variable {P : Program} {w : World} {ops : Array Oper} {rest : List Oper} {o : Oper} {a : Act} {Q : Exit → Act → World → Prop}
/-- 'append(s, x)': the element lies in a block made on the spot. -/
theorem wpList_rowB {α : Type} {r : Rep α} (hf : r.flat) {xs : List α} {y : α} (hgd : o.guard = none) (s x : Operand) (t : TypeId) (ho : o.op = .call { callee := .builtin .append, args := #[s, x], argTypes := #[t, t] })
    (B : Nat) (e : TypeId) {z : Value} {bytes : Nat} (hinfo : (P.info? e).map (fun i => (i.zero, i.size, i.bytes)) = some (some z, r.size, bytes)) (ht : P.underlying t = some (.slice e))
    (hzs : z.cells.size = r.size) (hby : bytes ≤ 1000) (v : Value) {b : Option Nat} (hs : a.eval s = v) (hrow : Row r e B w b v xs) (hB : B ≤ w.heap.size)
    (c H : Nat) (cs : List Value) (hx : a.eval x = .slice (some ⟨H, 0, none⟩) 1 c) (hH : w.heap.size = H) (hcs : r.is true w (fun _ => False) cs y) (hn : xs.length ≤ 1000000)
    (h : ∀ v' w' b', Row r e B w' b' v' (xs ++ [y]) → w.grownBy w' b → Below B w w' → (b' = b ∨ ∃ k, b' = some k ∧ w.heap.size ≤ k) → wpList P ops Q rest (a.put o.dst v') w') : wpList P ops Q (o :: rest) a (w.alloc (.cells cs.toArray e)) := by
  obtain ⟨cells, h1, h2, rfl⟩ := hrow
  refine wpList_appendB hgd s x t ho B e hinfo ht hzs r.pos v xs.length cells hs h1 1 c H cs hx hH (by rw [r.len hcs]; omega) (r.one hcs) (by unfold maxLen; omega) (Nat.le_trans (Nat.mul_le_mul (show xs.length + 1 ≤ 1000001 by omega) hby) (by omega)) hB ?_
  intro v' w' k1 k2 k3 k4
  refine h v' w' _ ⟨cells ++ cs, by rw [List.length_append]; exact k1, Rep.all_snoc (Rep.all_flat hf h2) (hf hcs), rfl⟩ k2 k3 ?_
  rcases k4 with k4 | k4
  · exact .inl k4
  · exact .inr ⟨_, k4, by omega⟩
/-- 'append(s, x...)'. -/
theorem wpList_rowS {α : Type} {r : Rep α} (hf : r.flat) {xs ys : List α} {fr : Bool} {lo hi : Nat} (hgd : o.guard = none) (s x : Operand) (t : TypeId) (ho : o.op = .call { callee := .builtin .append, args := #[s, x], argTypes := #[t, t] })
    (B : Nat) (e : TypeId) {z : Value} {bytes : Nat} (hinfo : (P.info? e).map (fun i => (i.zero, i.size, i.bytes)) = some (some z, r.size, bytes)) (ht : P.underlying t = some (.slice e))
    (hzs : z.cells.size = r.size) (hby : bytes ≤ 1000) (v u : Value) {b : Option Nat} (hs : a.eval s = v) (hrow : Row r e B w b v xs) (hB : B ≤ w.heap.size)
    (hx : a.eval x = u) (hu : SliceIs r fr w lo hi u ys) (hn : xs.length + ys.length ≤ 1000000)
    (h : ∀ v' w' b', Row r e B w' b' v' (xs ++ ys) → w.grownBy w' b → Below B w w' → (b' = b ∨ ∃ k, b' = some k ∧ w.heap.size ≤ k) → wpList P ops Q rest (a.put o.dst v') w') : wpList P ops Q (o :: rest) a w := by
  obtain ⟨cells, h1, h2, rfl⟩ := hrow
  obtain ⟨A, c, rfl, _, _, hA⟩ := hu
  refine wpList_appendS hgd s x t ho B e hinfo ht hzs v xs.length cells hs h1 A c hx hA (by unfold maxLen; omega) (Nat.le_trans (Nat.mul_le_mul (show xs.length + ys.length ≤ 1000001 by omega) hby) (by omega)) hB ?_
  intro v' w' news k0 k1 k2 k3 k4
  refine h v' w' _ ⟨cells ++ news, by rw [List.length_append]; exact k1, Rep.all_append (Rep.all_flat hf h2) (Rep.all_flat hf k0), rfl⟩ k2 k3 ?_
  rcases k4 with k4 | k4
  · exact .inl k4
  · exact .inr ⟨_, k4, by omega⟩
end
end Go.Proofs.Ytdfgnmdofjhnkaa
