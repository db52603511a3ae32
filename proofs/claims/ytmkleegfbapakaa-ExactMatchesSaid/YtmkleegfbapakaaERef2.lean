import Derived.Test.YtmkleegfbapakaaERef
import Derived.OwnWalk
import Derived.Laws.AppendOwnNone
import Derived.Deep.AppendLies
import Derived.Maps.AppendAt
namespace Go.Proofs.Ytmkleegfbapakaa
open Go.RowKit Go BigFrame Go.Shelf
set_option maxRecDepth 100000
set_option linter.unusedSimpArgs false

/-- The orders that begin with some, in the reference's way. -/
def refgen : Nat → List Int → Nat → List (List Int)
  | 0, b, _ => [b]
  | f + 1, b, n => (List.range n).flatMap fun (x : Nat) => if (x : Int) ∈ b then [] else refgen f (b ++ [(x : Int)]) n
def refTo (f : Nat) (b : List Int) (n k : Nat) : List (List Int) := (List.range k).flatMap fun (x : Nat) => if (x : Int) ∈ b then [] else refgen f (b ++ [(x : Int)]) n
theorem refTo_succ (f : Nat) (b : List Int) (n k : Nat) : refTo f b n (k + 1) = refTo f b n k ++ if (k : Int) ∈ b then [] else refgen f (b ++ [(k : Int)]) n := by simp [refTo, List.range_succ]
theorem refTo_le {f : Nat} {b : List Int} {n N : Nat} (h : ∀ x : Nat, (refgen f (b ++ [(x : Int)]) n).length ≤ N) : ∀ k, (refTo f b n k).length ≤ k * N := by
  intro k
  induction k with
  | zero => simp [refTo]
  | succ k ih =>
    rw [refTo_succ, List.length_append, Nat.add_mul]
    have := h k
    split
    · simp; omega
    · omega
theorem refgen_le {n : Nat} (hn : n ≤ 8) : ∀ (f : Nat) (b : List Int), (refgen f b n).length ≤ 8 ^ f
  | 0, _ => Nat.le_refl _
  | f + 1, b => by
    have h1 := refTo_le (f := f) (b := b) (n := n) (N := 8 ^ f) (fun x => refgen_le hn f _) n
    have h2 : n * 8 ^ f ≤ 8 * 8 ^ f := Nat.mul_le_mul_right _ hn
    have e : (refgen (f + 1) b n).length = (refTo f b n n).length := rfl
    rw [e, Nat.pow_succ]
    omega

/-- A row that reads as l, in a block of which Pb is said, apart from the block that v owns. -/
def Row1 (w : World) (v : Value) (Pb : Nat → Prop) (x : Value) (l : List Int) : Prop := IsInts w x l ∧ ∀ A n c, x = .slice (some A) n c → v.ownBlock ≠ some A.block ∧ Pb A.block ∧ A.block < w.heap.size
theorem IsInts.ext {w w' : World} {x : Value} {l : List Int} (h : IsInts w x l) (k : Ext w w') : IsInts w' x l := by
  obtain ⟨a, cap, e, hi⟩ := h
  exact ⟨a, cap, e, hi.ext k⟩
theorem Row1.ext {w w' : World} {v x : Value} {Pb : Nat → Prop} {l : List Int} (h : Row1 w v Pb x l) (k : Ext w w') : Row1 w' v Pb x l :=
  ⟨h.1.ext k, fun A n c e => ⟨(h.2 A n c e).1, (h.2 A n c e).2.1, Nat.lt_of_lt_of_le (h.2 A n c e).2.2 k.size⟩⟩
theorem Row1.grown {w w' : World} {v v' x : Value} {Pb : Nat → Prop} {l : List Int} (h : Row1 w v Pb x l) (hg : w.grownBy w' v.ownBlock) (hat : v'.ownBlock = v.ownBlock ∨ v'.ownBlock = some w.heap.size) : Row1 w' v' Pb x l := by
  obtain ⟨⟨a, cap, e, hi⟩, hs⟩ := h
  refine ⟨⟨a, cap, e, hi.le, hi.mx, hi.nil, fun A hA i hi' => ?_⟩, fun A n c e' => ?_⟩
  · obtain ⟨h1, u, hu, hr⟩ := hi.cells A hA i hi'
    subst hA
    exact ⟨h1, u, (hg.cell_far ⟨A.block, A.off + i, none⟩ (lt_of_cell hu) (fun e' => (hs A _ _ e).1 e'.symm)).trans hu, hr⟩
  · obtain ⟨h1, h2, h3⟩ := hs A n c e'
    refine ⟨fun e2 => ?_, h2, Nat.lt_of_lt_of_le h3 hg.size⟩
    rcases hat with h | h
    · exact h1 (h ▸ e2)
    · rw [h] at e2
      simp only [Option.some.injEq] at e2
      omega

/-- v holds the rows L; its own block lies from B on. -/
structure RowsF (w : World) (B : Nat) (v : Value) (L : List (List Int)) (Pb : Nat → Prop) : Prop where
  nn : v ≠ .slice none 0 0
  ex : ∃ xs : List Value, w.ownsRow B 39 1 v L.length xs ∧ ∀ i (_ : i < L.length), ∃ x, xs[i]? = some x ∧ Row1 w v Pb x (L.getD i [])
section
variable {w w' : World} {B : Nat} {v : Value} {L : List (List Int)} {Pb : Nat → Prop}
theorem RowsF.form (h : RowsF w B v L Pb) : ∃ g cap, v = .slice (some ⟨g, 0, none⟩) L.length cap ∧ B ≤ g ∧ g < w.heap.size ∧ L.length ≤ cap ∧ cap ≤ 9223372036854775807 := by
  obtain ⟨xs, ho, _⟩ := h.ex
  rcases ho.2 with ⟨e, _⟩ | ⟨g, cap, cur, e, hb, hg, hn, hm, _⟩
  · exact absurd e h.nn
  · exact ⟨g, cap, e, hb, (Array.getElem?_eq_some_iff.1 hg).1, hn, by unfold maxLen at hm; exact hm⟩
theorem RowsF.rows {g cap : Nat} (h : RowsF w B (.slice (some ⟨g, 0, none⟩) L.length cap) L Pb) : Rows w (some ⟨g, 0, none⟩) cap L := by
  obtain ⟨g', cap', e, _, _, h3, h4⟩ := h.form
  simp only [Value.slice.injEq, Option.some.injEq, Addr.mk.injEq, and_true, true_and] at e
  obtain ⟨rfl, rfl⟩ := e
  refine ⟨h3, h4, fun h => by (cases h), fun A hA i hi => ?_⟩
  cases hA
  obtain ⟨xs, ho, hx⟩ := h.ex
  obtain ⟨x, hx1, hx2, _⟩ := hx i hi
  refine ⟨rfl, x, ?_, ?_⟩
  · have := World.ownsRow.cellAt ho i (by omega)
    rw [hx1] at this
    simpa using this
  · simpa [List.getD, hi] using hx2
theorem RowsF.ext (h : RowsF w B v L Pb) (k : Ext w w') : RowsF w' B v L Pb := by
  obtain ⟨hn, xs, ⟨h1, h2⟩, hx⟩ := h
  refine ⟨hn, xs, ⟨h1, ?_⟩, fun i hi => ?_⟩
  · rcases h2 with h2 | ⟨g, cap, cur, e, hb, hg, hr⟩
    · exact .inl h2
    · exact .inr ⟨g, cap, cur, e, hb, (k.block g (Array.getElem?_eq_some_iff.1 hg).1).trans hg, hr⟩
  · obtain ⟨x, e, hi2⟩ := hx i hi
    exact ⟨x, e, hi2.ext k⟩
theorem RowsF.low {B' : Nat} (h : RowsF w B v L Pb) (hB : B' ≤ B) : RowsF w B' v L Pb := by
  obtain ⟨hn, xs, ⟨h1, h2⟩, hx⟩ := h
  refine ⟨hn, xs, ⟨h1, ?_⟩, hx⟩
  rcases h2 with h2 | ⟨g, cap, cur, e, hb, hg, hr⟩
  · exact .inl h2
  · exact .inr ⟨g, cap, cur, e, by omega, hg, hr⟩
/-- The rows of another slice are appended. -/
theorem RowsF.join {v' : Value} {L2 : List (List Int)} {xs xs2 : List Value} (hn : v ≠ .slice none 0 0) (ho : xs.length = L.length) (hx : ∀ i (_ : i < L.length), ∃ x, xs[i]? = some x ∧ Row1 w v Pb x (L.getD i []))
    (hx2 : ∀ i (_ : i < L2.length), ∃ x, xs2[i]? = some x ∧ Row1 w v Pb x (L2.getD i [])) (ho' : w'.ownsRow B 39 1 v' (L.length + L2.length) (xs ++ xs2)) (hg : w.grownBy w' v.ownBlock)
    (hnil : v' = .slice none 0 0 ↔ v = .slice none 0 0 ∧ L2.length = 0) (hat : v'.ownBlock = v.ownBlock ∨ v'.ownBlock = some w.heap.size) : RowsF w' B v' (L ++ L2) Pb := by
  refine ⟨fun e => hn (hnil.1 e).1, xs ++ xs2, by rw [List.length_append]; exact ho', fun i hi => ?_⟩
  rw [List.length_append] at hi
  by_cases h : i < L.length
  · obtain ⟨x, e, hr⟩ := hx i h
    refine ⟨x, by rw [List.getElem?_append_left (by omega)]; exact e, ?_⟩
    have : (L ++ L2).getD i [] = L.getD i [] := by simp [List.getD, List.getElem?_append_left h]
    rw [this]
    exact hr.grown hg hat
  · obtain ⟨x, e, hr⟩ := hx2 (i - L.length) (by omega)
    refine ⟨x, by rw [List.getElem?_append_right (by omega), ho]; exact e, ?_⟩
    have : (L ++ L2).getD i [] = L2.getD (i - L.length) [] := by simp [List.getD, List.getElem?_append_right (Nat.le_of_not_lt h)]
    rw [this]
    exact hr.grown hg hat
end
end Go.Proofs.Ytmkleegfbapakaa
