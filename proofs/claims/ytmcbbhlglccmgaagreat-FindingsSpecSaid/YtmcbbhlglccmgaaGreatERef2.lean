import Derived.Test.YtmcbbhlglccmgaaGreatEFn
import Derived.Test.YtmcbbhlglccmgaaGreatECnt2
import Derived.OwnWalk
import Derived.Laws.AppendOwnNone
import Derived.Deep.AppendLies
import Derived.Maps.AppendAt
namespace Go.Proofs.YtmcbbhlglccmgaaGreat
open Go.RowKit Go BigFrame Go.Shelf
set_option maxRecDepth 100000
set_option linter.unusedSimpArgs false

/-- The error of the reference's lists. -/
def listsE (la lb : Nat) : Int := if 8 < la ∨ 8 < lb then 2 else if la ≠ lb then 1 else 0
end Go.Proofs.YtmcbbhlglccmgaaGreat

namespace Go.Proofs.YtmcbbhlglccmgaaGreat
open Go.RowKit Go BigFrame Go.Shelf
set_option maxRecDepth 100000
set_option linter.unusedSimpArgs false

/-- The orders that begin with some, in the reference's way. -/
def refgen : Nat → List Int → Nat → List (List Int)
  | 0, b, _ => [b]
  | f + 1, b, n => (List.range n).flatMap fun (x : Nat) => if (x : Int) ∈ b then [] else refgen f (b ++ [(x : Int)]) n
def refTo (f : Nat) (b : List Int) (n k : Nat) : List (List Int) := (List.range k).flatMap fun (x : Nat) => if (x : Int) ∈ b then [] else refgen f (b ++ [(x : Int)]) n
/-- A row that reads as l, in a block of which Pb is said, apart from the block that v owns. -/
def Row1 (w : World) (v : Value) (Pb : Nat → Prop) (x : Value) (l : List Int) : Prop := IsInts w x l ∧ ∀ A n c, x = .slice (some A) n c → v.ownBlock ≠ some A.block ∧ Pb A.block ∧ A.block < w.heap.size
theorem IsInts.ext {w w' : World} {x : Value} {l : List Int} (h : IsInts w x l) (k : Ext w w') : IsInts w' x l := by
  obtain ⟨a, cap, e, hi⟩ := h
  exact ⟨a, cap, e, hi.ext k⟩
theorem Row1.ext {w w' : World} {v x : Value} {Pb : Nat → Prop} {l : List Int} (h : Row1 w v Pb x l) (k : Ext w w') : Row1 w' v Pb x l :=
  ⟨h.1.ext k, fun A n c e => ⟨(h.2 A n c e).1, (h.2 A n c e).2.1, Nat.lt_of_lt_of_le (h.2 A n c e).2.2 k.size⟩⟩
theorem Row1.grown {w w' : World} {v v' x : Value} {Pb : Nat → Prop} {l : List Int} (h : Row1 w v Pb x l) (hg : w.grownBy w' v.ownBlock) (hat : v'.ownBlock = v.ownBlock ∨ v'.ownBlock = some w.heap.size) : Row1 w' v' Pb x l := by
  obtain ⟨⟨a, cap, e, hi⟩, hs⟩ := h
  refine ⟨⟨a, cap, e, hi.le, hi.mx, hi.nil, fun A hA i hi' => ?_⟩, fun A n c e' => ?_⟩
  · obtain ⟨h1, u, hu, hr⟩ := hi.cells A hA i hi'
    subst hA
    exact ⟨h1, u, (hg.cell_far ⟨A.block, A.off + i, none⟩ (lt_of_cell hu) (fun e' => (hs A _ _ e).1 e'.symm)).trans hu, hr⟩
  · obtain ⟨h1, h2, h3⟩ := hs A n c e'
    refine ⟨fun e2 => ?_, h2, Nat.lt_of_lt_of_le h3 hg.size⟩
    rcases hat with h | h
    · exact h1 (h ▸ e2)
    · rw [h] at e2
      simp only [Option.some.injEq] at e2
      omega

/-- v holds the rows L; its own block lies from B on. -/
structure RowsF (w : World) (B : Nat) (v : Value) (L : List (List Int)) (Pb : Nat → Prop) : Prop where
  nn : v ≠ .slice none 0 0
  ex : ∃ xs : List Value, w.ownsRow B 27 1 v L.length xs ∧ ∀ i (_ : i < L.length), ∃ x, xs[i]? = some x ∧ Row1 w v Pb x (L.getD i [])
section
variable {w w' : World} {B : Nat} {v : Value} {L : List (List Int)} {Pb : Nat → Prop}
theorem RowsF.form (h : RowsF w B v L Pb) : ∃ g cap, v = .slice (some ⟨g, 0, none⟩) L.length cap ∧ B ≤ g ∧ g < w.heap.size ∧ L.length ≤ cap ∧ cap ≤ 9223372036854775807 := by
  obtain ⟨xs, ho, _⟩ := h.ex
  rcases ho.2 with ⟨e, _⟩ | ⟨g, cap, cur, e, hb, hg, hn, hm, _⟩
  · exact absurd e h.nn
  · exact ⟨g, cap, e, hb, (Array.getElem?_eq_some_iff.1 hg).1, hn, by unfold maxLen at hm; exact hm⟩
theorem RowsF.rows {g cap : Nat} (h : RowsF w B (.slice (some ⟨g, 0, none⟩) L.length cap) L Pb) : Rows w (some ⟨g, 0, none⟩) cap L := by
  obtain ⟨g', cap', e, _, _, h3, h4⟩ := h.form
  simp only [Value.slice.injEq, Option.some.injEq, Addr.mk.injEq, and_true, true_and] at e
  obtain ⟨rfl, rfl⟩ := e
  refine ⟨h3, h4, fun h => by (cases h), fun A hA i hi => ?_⟩
  cases hA
  obtain ⟨xs, ho, hx⟩ := h.ex
  obtain ⟨x, hx1, hx2, _⟩ := hx i hi
  refine ⟨rfl, x, ?_, ?_⟩
  · have := World.ownsRow.cellAt ho i (by omega)
    rw [hx1] at this
    simpa using this
  · simpa [List.getD, hi] using hx2
theorem RowsF.ext (h : RowsF w B v L Pb) (k : Ext w w') : RowsF w' B v L Pb := by
  obtain ⟨hn, xs, ⟨h1, h2⟩, hx⟩ := h
  refine ⟨hn, xs, ⟨h1, ?_⟩, fun i hi => ?_⟩
  · rcases h2 with h2 | ⟨g, cap, cur, e, hb, hg, hr⟩
    · exact .inl h2
    · exact .inr ⟨g, cap, cur, e, hb, (k.block g (Array.getElem?_eq_some_iff.1 hg).1).trans hg, hr⟩
  · obtain ⟨x, e, hi2⟩ := hx i hi
    exact ⟨x, e, hi2.ext k⟩
theorem RowsF.low {B' : Nat} (h : RowsF w B v L Pb) (hB : B' ≤ B) : RowsF w B' v L Pb := by
  obtain ⟨hn, xs, ⟨h1, h2⟩, hx⟩ := h
  refine ⟨hn, xs, ⟨h1, ?_⟩, hx⟩
  rcases h2 with h2 | ⟨g, cap, cur, e, hb, hg, hr⟩
  · exact .inl h2
  · exact .inr ⟨g, cap, cur, e, by omega, hg, hr⟩
end
end Go.Proofs.YtmcbbhlglccmgaaGreat
