import Derived.Test.YtmkleegfbapakaaLExAll
import Derived.Test.YtmkleegfbapakaaEFrom
import Derived.Test.YtmkleegfbapakaaEOrdM
namespace Go.Proofs.Ytmkleegfbapakaa
open Go.RowKit Go BigFrame Go.Shelf
set_option maxRecDepth 100000
set_option linter.unusedSimpArgs false

theorem Ints.putAt {w : World} {g cap : Nat} {l : List Int} (h : Ints w (some ⟨g, 0, none⟩) cap l) {i : Nat} {u : Int} (hu : -9223372036854775808 ≤ u ∧ u ≤ 9223372036854775807) : Ints (w.setCell ⟨g, i, none⟩ (.int .i64 u)) (some ⟨g, 0, none⟩) cap (l.set i u) := by
  refine ⟨by simpa using h.le, h.mx, h.nil, fun A hA j hj => ?_⟩
  cases hA
  simp only [List.length_set] at hj
  obtain ⟨h1, v, hv, rfl, hr⟩ := h.cells _ rfl j hj
  dsimp only at hv ⊢
  simp only [Nat.zero_add] at hv ⊢
  by_cases e : i = j
  · subst e
    refine ⟨by trivial, .int .i64 u, ?_, by simp [IsInt, hu]⟩
    exact World.cell?_setCell_same' _ _ _ (by rw [hv]; rfl)
  · refine ⟨by trivial, .int .i64 l[j], ?_, by simp [IsInt, List.getElem_set, e, hr]⟩
    rw [World.cell?_setCell_other _ _ _ _ (fun e2 => e (by injection e2))]; exact hv
theorem OwnI.freeAt {w : World} {B g n cap : Nat} {L : List Int} (h : OwnI w B (.slice (some ⟨g, 0, none⟩) n cap) L) (i : Nat) : w.frozen? ⟨g, i, none⟩ = false := by
  rcases h.own.2 with ⟨e, _⟩ | ⟨g', cap', cur, e, _, hg, _⟩
  · exact absurd e h.nn
  · simp only [Value.slice.injEq, Option.some.injEq, Addr.mk.injEq, and_true, true_and] at e
    obtain ⟨rfl, rfl, rfl⟩ := e
    exact Blk.free hg i
theorem any_perm {l m : List Int} (h : l.Perm m) (p : Int → Bool) : l.any p = m.any p := by
  cases hm : m.any p with
  | true =>
    rw [List.any_eq_true] at hm ⊢
    obtain ⟨x, hx, hp⟩ := hm
    exact ⟨x, h.mem_iff.2 hx, hp⟩
  | false =>
    rw [List.any_eq_false] at hm ⊢
    exact fun x hx => hm x (h.mem_iff.1 hx)
theorem Ints.tail {w : World} {a : Option Addr} {cap : Nat} {x : Int} {l : List Int} (h : Ints w a cap (x :: l)) : ∃ b o, a = some ⟨b, o, none⟩ ∧ w.cell? ⟨b, o, none⟩ = some (.int .i64 x) ∧ Ints w (if cap = 1 then some ⟨b, o, none⟩ else some ⟨b, o + 1, none⟩) (cap - 1) l ∧ 1 ≤ cap := by
  obtain ⟨b, o, rfl⟩ := h.head (i := 0) (by simp)
  have hle := h.le
  simp only [List.length_cons] at hle
  have hmx := h.mx
  refine ⟨b, o, rfl, (h.cell (i := 0) (by simp)).1, ?_, by omega⟩
  by_cases h1 : cap = 1
  · rw [if_pos h1]
    obtain rfl : l = [] := List.length_eq_zero_iff.1 (by omega)
    exact ⟨by simp, by omega, fun e => (by cases e), fun A hA i hi => by simp at hi⟩
  · rw [if_neg h1]
    refine ⟨by omega, by omega, fun e => (by cases e), fun A hA i hi => ?_⟩
    cases hA
    obtain ⟨h1, u, hu, hr⟩ := h.cells _ rfl (i + 1) (by simp; omega)
    refine ⟨h1, u, ?_, by simpa using hr⟩
    rw [← hu]; congr 2; dsimp only; omega

end Go.Proofs.Ytmkleegfbapakaa
