import Derived.Test.YtnpeakahiedeoaaDoorPRefA
namespace Go.Proofs.YtnpeakahiedeoaaDoor
open Go.RowKit Go BigFrame Go.Shelf
set_option maxRecDepth 100000
set_option linter.unusedSimpArgs false

end Go.Proofs.YtnpeakahiedeoaaDoor

namespace Go.Proofs.YtnpeakahiedeoaaDoor
open Go.RowKit Go BigFrame Go.Shelf
set_option maxRecDepth 100000
set_option linter.unusedSimpArgs false

end Go.Proofs.YtnpeakahiedeoaaDoor

namespace Go.Proofs.YtnpeakahiedeoaaDoor
open Go.RowKit Go BigFrame Go.Shelf
set_option maxRecDepth 100000
set_option linter.unusedSimpArgs false

end Go.Proofs.YtnpeakahiedeoaaDoor

namespace Go.Proofs.YtnpeakahiedeoaaDoor
open Go.RowKit Go BigFrame Go.Shelf
set_option maxRecDepth 100000
set_option linter.unusedSimpArgs false

theorem Big.neg {n : Bool} {l : List Int} {z : Int} (h : Big n l z) : Big (!n && decide (0 < l.length)) l (-z) := by
  obtain ⟨h1, h2, h3⟩ := h
  cases n with
  | true => exact ⟨h1, fun e => by simp at e, by simp at h3 ⊢; omega⟩
  | false =>
    refine ⟨h1, fun e he => by rw [he] at e; simp at e, ?_⟩
    simp at h3
    by_cases hl : 0 < l.length
    · simp [hl, h3]
    · have : l = [] := List.length_eq_zero_iff.1 (by omega)
      subst this; simp [h3, dval]
end Go.Proofs.YtnpeakahiedeoaaDoor

