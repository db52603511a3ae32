import Derived.Test.YtnpeakahiedeoaaDoorPNews
import Derived.Test.YtnpeakahiedeoaaDoorPRefA
import Derived.Test.YtnpeakahiedeoaaDoorNC
import Derived.Outline
import Derived.Deep.Cut
namespace Go.Proofs.YtnpeakahiedeoaaDoor
open Go.RowKit Go BigFrame Go.Shelf
set_option maxRecDepth 100000
set_option linter.unusedSimpArgs false

/-! ref.divide. -/
def DivdP (l m : List Int) (w : World) (e : Ending) (w' : World) : Prop :=
  ∃ aq cq ar cr, e = .returned (.tuple #[.slice aq (digs (dval l / dval m).toNat).length cq, .slice ar (digs (dval l % dval m).toNat).length cr]) ∧
    Ints w' aq cq (digs (dval l / dval m).toNat) ∧ Ints w' ar cr (digs (dval l % dval m).toNat) ∧ (∀ A, aq = some A → w.heap.size ≤ A.block) ∧ (∀ A, ar = some A → w.heap.size ≤ A.block) ∧ Ext w w'

theorem set_zero {Q : List Int} {i : Nat} (h : Q.getD i 0 = 0) : Q.set i 0 = Q := by
  by_cases hi : i < Q.length
  · have : Q[i] = 0 := by simpa [List.getD, hi] using h
    rw [← this]; exact List.set_getElem_self hi
  · exact List.set_eq_of_length_le (by omega)
theorem getD_set_ne2 {Q : List Int} {i j : Nat} (h : i ≠ j) (x : Int) : (Q.set i x).getD j 0 = Q.getD j 0 := by
  simp [List.getD, List.getElem?_set, h]
/-- What a round at place i knows. -/
structure RefR (l m : List Int) (i : Nat) (Q R : List Int) : Prop where
  d : DivAt l (dval m) (i + 1) Q (dval R)
  z : ∀ j, j < i + 1 → Q.getD j 0 = 0
theorem RefR.skip {l m : List Int} {i : Nat} {Q R R1 : List Int} (h : RefR l m i Q R) (hl : Digs l) (hi : i < l.length) (h1 : dval R1 = l.getD i 0 + 1073741824 * dval R) (h0 : 0 ≤ dval R1) (hlt : dval R1 < dval m) :
    DivAt l (dval m) i Q (dval R1) ∧ ∀ j, j < i → Q.getD j 0 = 0 := by
  have := h.d.step hl hi
  rw [show dval R * 1073741824 + l.getD i 0 = dval R1 by omega, Int.ediv_eq_zero_of_lt h0 hlt, Int.emod_eq_of_lt h0 hlt, set_zero (h.z i (by omega))] at this
  exact ⟨this, fun j hj => h.z j (by omega)⟩
theorem RefR.take {l m : List Int} {i : Nat} {Q R R1 R2 : List Int} (h : RefR l m i Q R) (hl : Digs l) (hi : i < l.length) (h1 : dval R1 = l.getD i 0 + 1073741824 * dval R) (h2 : dval R2 = dval R1 % dval m) :
    DivAt l (dval m) i (Q.set i (dval R1 / dval m)) (dval R2) ∧ ∀ j, j < i → (Q.set i (dval R1 / dval m)).getD j 0 = 0 := by
  have := h.d.step hl hi
  rw [show dval R * 1073741824 + l.getD i 0 = dval R1 by omega, ← h2] at this
  exact ⟨this, fun j hj => by rw [getD_set_ne2 (by omega)]; exact h.z j (by omega)⟩

end Go.Proofs.YtnpeakahiedeoaaDoor
