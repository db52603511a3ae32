import Derived.Test.YtmcbbhlglccmgaaQ0
import Derived.Recover
namespace Go.Proofs.Ytmcbbhlglccmgaa
open Go.RowKit Go BigFrame
set_option maxRecDepth 100000
set_option linter.unusedSimpArgs false
set_option linter.unusedVariables false

/-! ratio.need, ratio.caught, ratio.did. -/
theorem ratio_need_yes (E : Int) (w : World) : Calls Try.prog 86 #[.bool true, .int .i64 E] w fun e w' => e = .returned (.tuple #[]) ∧ Ext w w' := by
  have hx := Ext.refl w
  go_enter Try.func86, Try.ntmps86
  go_wp2_with fail
  go_end0
  exact ⟨rfl, hx⟩
theorem ratio_caught_idle (p : Addr) (w : World) :
    CallsD Try.prog 64 #[.pointer (some p)] .returning w fun e u' w' => e = .returned (.tuple #[]) ∧ u' = .returning ∧ w' = w := by
  refine callsD_of_wpS Try.func64 rfl fun c₀ cs hu => ?_
  apply wpS_seq
  apply wpS_region
  simp [wpOpsS, go_sem, recoverD, hu, Try.ntmps64, Exit.thenS]
  refine wpS_of_wp ?_
  refine wp_block ?_
  refine wp_seq ?_
  refine wp_region ?_
  simp [wpOps, wpList, go_sem, Exit.then]
  repeat refine Or.inl ?_
  refine wp_cond_true (c := .tmp 7) ?_ ?_
  · simp [Act.eval, Array.replicate]
  refine wp_region ?_
  simp [wpOps, wpList, go_sem, Exit.then, Exit.inBlock]
  repeat refine Or.inl ?_
  cases c₀
  simp_all [bodyPostS, results, Try.results64]
end Go.Proofs.Ytmcbbhlglccmgaa
