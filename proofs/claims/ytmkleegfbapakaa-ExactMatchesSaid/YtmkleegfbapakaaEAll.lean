import Derived.Test.YtmkleegfbapakaaERef3
namespace Go.Proofs.Ytmkleegfbapakaa
open Go.RowKit Go BigFrame Go.Shelf
set_option maxRecDepth 100000
set_option linter.unusedSimpArgs false

/-- All the orders of n, in the reference's way. -/
theorem ref_all (n : Nat) (hn : n ≤ 8) (w : World) :
    Calls Try.prog 68 #[.int .i64 n] w (OrdP (refgen n [] n) (Pbeg none w.heap.size) w) := by
  have h : Calls Try.prog 82 #[.slice none 0 0, .int .i64 n] w (OrdP (refgen n [] n) (Pbeg none w.heap.size) w) := by
    have := ref_orders n hn n [] (by simp) none 0 w ⟨Nat.le_refl _, by simp, fun _ => rfl, fun A hA => by cases hA⟩ (fun A e => by cases e) (fun _ => ⟨rfl, rfl⟩)
    simpa using this
  have H := Lib.hid h
  clear h
  go_enter Try.func68, Try.ntmps68
  go_wp2_with (go_at_call 82; refine H.out.mono ?_; rintro e w' ⟨v, rfl, hR, hy⟩)
  exact ⟨rfl, v, by simp [results, go_sem], v, rfl, hR, hy⟩
end Go.Proofs.Ytmkleegfbapakaa
