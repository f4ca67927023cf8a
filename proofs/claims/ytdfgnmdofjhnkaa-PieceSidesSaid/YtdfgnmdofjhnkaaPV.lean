/- Contracts of layer 6 in the forms that the laws' walks want. -/
import Derived.Test.YtdfgnmdofjhnkaaPX
import Derived.Test.YtdfgnmdofjhnkaaPR
namespace Go.Proofs.Ytdfgnmdofjhnkaa
open Go.RowKit

theorem decodeq {s : ByteArray} {l : List UInt8} {p : Pc.Piece} {n : Int} (w : World) (hl : s.data.toList = l) (hs : l.length ≤ 1000000) (hp : Pc.dec l = p) (hn : Pc.decE l = n) : Calls Try.prog 19 #[.string s] w
    fun x w' => (∃ A1 c1 A2 c2 A3 c3, x = .returned (.tuple #[.agg #[.int .i64 p.node, .int .i64 p.state, .int .i64 p.steps, .slice A1 p.sent.length c1, .slice A2 p.inn.length c2, .slice A3 p.out.length c3], .int .i64 n]) ∧ PieceIs true w' w.heap.size w'.heap.size (.agg #[.int .i64 p.node, .int .i64 p.state, .int .i64 p.steps, .slice A1 p.sent.length c1, .slice A2 p.inn.length c2, .slice A3 p.out.length c3]) p) ∧ Below w.heap.size w w' := by
  subst hl hp hn
  have hs' : s.size ≤ 1000000 := by
    have : s.size = s.data.toList.length := by rw [Array.length_toList]; rfl
    omega
  refine (decode_any s w hs').mono ?_
  rintro x w' ⟨⟨v, rfl, hv⟩, hb⟩
  have hv' := hv
  obtain ⟨_, _, _, rfl, ⟨A1, c1, rfl, _⟩, ⟨A2, c2, rfl, _⟩, ⟨A3, c3, rfl, _⟩⟩ := hv'
  exact ⟨⟨A1, c1, A2, c2, A3, c3, rfl, hv⟩, hb⟩
theorem encodeq {v : Value} {p : Pc.Piece} {w : World} {S : ByteArray} {n : Int} (h : PieceIs false w 0 w.heap.size v p) (he : ByteArray.mk (Pc.enc p).toArray = S) (hr : Pc.err p = n) : Calls Try.prog 16 #[v] w
    fun x w' => x = .returned (.tuple #[.string S, .int .i64 n]) ∧ Below w.heap.size w w' := by
  subst he hr; exact encode_any v p w h
theorem rightq {v : Value} {p : Pc.Piece} {w : World} {b : Bool} (h : PieceIs false w 0 w.heap.size v p) (hr : Pc.right p = b) : Calls Try.prog 21 #[v] w fun x w' => x = .returned (.bool b) ∧ Below w.heap.size w w' := by
  subst hr; exact right_any v p w h
theorem rrightq {v : Value} {p : Pc.Piece} {w : World} {b : Bool} (h : PieceIs false w 0 w.heap.size v p) (hr : Pc.right p = b) : Calls Try.prog 22 #[v] w fun x w' => x = .returned (.bool b) ∧ Below w.heap.size w w' := by
  subst hr; exact rright_any v p w h
theorem sameq {v u : Value} {p q : Pc.Piece} {w : World} (h : PieceIs false w 0 w.heap.size v p) (h' : PieceIs false w 0 w.heap.size u q) (he : p = q) : Calls Try.prog 23 #[v, u] w fun x w' => x = .returned (.bool true) ∧ Below w.heap.size w w' := by
  have := same_any v u p q w h h'
  rwa [decide_eq_true he] at this
theorem rsameq {v u : Value} {p q : Pc.Piece} {w : World} (h : PieceIs false w 0 w.heap.size v p) (h' : PieceIs false w 0 w.heap.size u q) (he : p = q) : Calls Try.prog 24 #[v, u] w fun x w' => x = .returned (.bool true) ∧ Below w.heap.size w w' := by
  have := rsame_any v u p q w h h'
  rwa [decide_eq_true he] at this
theorem zero_is {fr : Bool} {w : World} {lo hi : Nat} : PieceIs fr w lo hi (.agg #[.int .i64 0, .int .i64 0, .int .i64 0, .slice none 0 0, .slice none 0 0, .slice none 0 0]) Pc.zero := ⟨_, _, _, rfl, SliceIs.none_, SliceIs.none_, SliceIs.none_⟩
theorem enc_len (p : Pc.Piece) : (Pc.enc p).length ≤ 1000000 := by
  unfold Pc.enc
  split
  · rename_i h
    have := W.puts_len (Pc.nums p)
    have := Pc.nums_len (Pc.small_of h)
    omega
  · simp
theorem bytes_of {s : ByteArray} {l : List UInt8} (h : l = s.data.toList) : ByteArray.mk l.toArray = s := by
  subst h; exact ByteArray.ext (by simp)
theorem SliceIs.next {α : Type} {r : Rep α} {fr : Bool} {w w' : World} {lo : Nat} {v : Value} {xs : List α} (h : SliceIs r fr w lo w.heap.size v xs) (hb : Below w.heap.size w w') : SliceIs r fr w' lo w'.heap.size v xs := (h.below hb (Nat.le_refl _)).widen (Nat.le_refl _) hb.size
theorem SliceIs.zero_ {α : Type} {r : Rep α} {fr : Bool} {w : World} {lo : Nat} {v : Value} {xs : List α} (h : SliceIs r fr w lo w.heap.size v xs) : SliceIs r false w 0 w.heap.size v xs := (h.widen (Nat.zero_le _) (Nat.le_refl _)).soft
theorem rallq {s : ByteArray} {l : List Nat} {xs : List Int} (w : World) (hs : s.size ≤ 1000000) (hl : W.all s.data.toList = .ok l) (hx : Pc.zs l = xs) : Calls Try.prog 27 #[.string s] w
    fun x w' => (∃ A c, x = .returned (.tuple #[.slice A xs.length c, .int .i64 0]) ∧ SliceIs Rep.int true w' w.heap.size w'.heap.size (.slice A xs.length c) xs) ∧ Below w.heap.size w w' := by
  subst hx
  have h := rall_any s w (by omega)
  rw [hl] at h
  refine h.mono ?_
  rintro x w' ⟨⟨v, rfl, hown⟩, hb⟩
  have h2 : w'.ownsRow w.heap.size 3 1 v (Pc.zs l).length (ints (Pc.zs l)) := by
    rw [← i64s_ints]; simpa [Pc.zs] using hown
  have h3 := SliceIs.of_own (r := Rep.int) (fr := true) (lo := w.heap.size) h2 (ints_all _ _ _ _) (Nat.le_refl _) (Nat.le_refl _)
  obtain ⟨A, c, rfl, _⟩ := id h3
  exact ⟨⟨A, c, rfl, h3⟩, hb⟩
theorem numbersq {v : Value} {p : Pc.Piece} {w : World} {xs : List Int} (h : PieceIs false w 0 w.heap.size v p) (hr : Pc.right p = true) (hx : Pc.nums p = xs) : Calls Try.prog 29 #[v] w
    fun x w' => (∃ A c, x = .returned (.slice A xs.length c) ∧ SliceIs Rep.int true w' w.heap.size w'.heap.size (.slice A xs.length c) xs) ∧ Below w.heap.size w w' := by
  subst hx
  refine (numbers_any v p w h (Pc.small_of hr)).mono ?_
  rintro x w' ⟨⟨v', rfl, hown⟩, hb⟩
  have h3 := hown.slice (Nat.le_refl _) (Nat.le_refl _)
  obtain ⟨A, c, rfl, _⟩ := id h3
  exact ⟨⟨A, c, rfl, h3⟩, hb⟩
theorem rintsq {v u : Value} {xs ys : List Int} {w : World} (h : SliceIs Rep.int false w 0 w.heap.size v xs) (h' : SliceIs Rep.int false w 0 w.heap.size u ys) (he : xs = ys) : Calls Try.prog 28 #[v, u] w
    fun x w' => x = .returned (.bool true) ∧ Below w.heap.size w w' := by
  refine (rints_any v u xs ys w h h').mono ?_
  rintro x w' ⟨rfl, hq⟩
  exact ⟨by rw [decide_eq_true he], hq.below⟩
/-- Cells that lie there, one behind the other. -/
def Cells (w : World) (g o : Nat) (l : List Value) : Prop := g < w.heap.size ∧ ∀ j u, l[j]? = some u → w.cell? ⟨g, o + j, none⟩ = some u
theorem Cells.next {w w' : World} {g o : Nat} {l : List Value} (h : Cells w g o l) (hb : Below w.heap.size w w') : Cells w' g o l :=
  ⟨Nat.lt_of_lt_of_le h.1 hb.size, fun j u hj => (cell_of_block (hb.block g h.1)).trans (h.2 j u hj)⟩
theorem Cells.four {w : World} {g o : Nat} {a b c d : Value} {t : List Value} (h : Cells w g o (a :: b :: c :: d :: t)) : w.cell? ⟨g, o, none⟩ = some a ∧ w.cell? ⟨g, o + 1, none⟩ = some b ∧ w.cell? ⟨g, o + 2, none⟩ = some c ∧ w.cell? ⟨g, o + 3, none⟩ = some d :=
  ⟨h.2 0 a rfl, h.2 1 b rfl, h.2 2 c rfl, h.2 3 d rfl⟩
theorem SliceIs.int_cells {fr : Bool} {w : World} {lo : Nat} {A : Option Addr} {n c : Nat} {xs : List Int} (h : SliceIs Rep.int fr w lo w.heap.size (.slice A n c) xs) (hx : 0 < xs.length) : ∃ g o, A = some ⟨g, o, none⟩ ∧ Cells w g o (ints xs) := by
  obtain ⟨A', c', he, _, _, cells, ha, hc⟩ := h
  injection he with he _ _
  subst he
  obtain ⟨g, o, rfl, hS, hcells⟩ := hc hx
  refine ⟨g, o, rfl, hS.2, fun j u hj => (hcells j u ?_).1⟩
  rw [all_ints ha]; exact hj
end Go.Proofs.Ytdfgnmdofjhnkaa
