import Derived.Test.YtnpeakahiedeoaaGreatDoorQ0
import Derived.Recover
namespace Go.Proofs.YtnpeakahiedeoaaGreatDoor
open Go.RowKit Go BigFrame
set_option maxRecDepth 100000
set_option linter.unusedSimpArgs false
set_option linter.unusedVariables false

/-! ratio.need, ratio.caught, ratio.did. -/
theorem ratio_need_yes (E : Int) (w : World) : Calls Tryz.prog 50 #[.bool true, .int .i64 E] w fun e w' => e = .returned (.tuple #[]) ∧ Ext w w' := by
  have hx := Ext.refl w
  go_enter Tryz.func50, Tryz.ntmps50
  go_wp2_with fail
  go_end0
  exact ⟨rfl, hx⟩
theorem ratio_need_no (E : Int) (w : World) : Calls Tryz.prog 50 #[.bool false, .int .i64 E] w fun e w' => e = errEnd E ∧ Ext w w' := by
  have hx := Ext.refl w
  go_enter Tryz.func50, Tryz.ntmps50
  go_wp2_with fail
  exact ⟨rfl, rfl, hx⟩
theorem ratio_caught_panicking (p : Addr) (x e : Int) (older : List PanicEntry) (w : World) (hc : w.cell? p = some (.int .i64 x)) (hz : w.frozen? p = false) :
    CallsD Tryz.prog 49 #[.pointer (some p)] (.panicking ({ v := .iface 30 (.int .i64 e), recovered := false } :: older)) w fun r u' w' =>
      r = .returned (.tuple #[]) ∧ u' = .panicking ({ v := .iface 30 (.int .i64 e), recovered := true } :: older) ∧ w' = w.setCell p (.int .i64 e) := by
  have hta : ∀ (v : Value) (w : World), (Instr.typeAssert (.iface 30 v) 20 30 true).run Tryz.prog w = .ok (.tuple #[v, .bool true]) w := fun _ _ => by kernel_rfl
  refine callsD_of_wpS Tryz.func49 rfl fun c₀ cs hu => ?_
  apply wpS_seq
  apply wpS_region
  simp [wpOpsS, go_sem, recoverD, hu, Tryz.ntmps49, Exit.thenS]
  refine wpS_of_wp ?_
  clear hu
  refine wp_block ?_
  refine wp_seq ?_
  refine wp_region ?_
  simp [wpOps, wpList, go_sem, Exit.then]
  repeat refine Or.inl ?_
  refine wp_cond_false (c := .tmp 7) ?_ ?_
  · simp [Act.eval, Array.replicate]
  refine wp_seq ?_
  refine wp_region ?_
  simp [wpOps, wpList, go_sem, Exit.then, hta]
  repeat refine Or.inl ?_
  refine wp_cond_true (c := .tmp 9) ?_ ?_
  · simp [Act.eval, Array.replicate]
  refine wp_seq ?_
  refine wp_region ?_
  simp [wpOps, wpList, go_sem, Exit.then]
  repeat refine Or.inl ?_
  refine wp_region ?_
  simp [wpOps, wpList, go_sem, Exit.then, Exit.inBlock, hc, hz, bodyPostS, results, Tryz.results49]
theorem ratio_caught_idle (p : Addr) (w : World) :
    CallsD Tryz.prog 49 #[.pointer (some p)] .returning w fun e u' w' => e = .returned (.tuple #[]) ∧ u' = .returning ∧ w' = w := by
  refine callsD_of_wpS Tryz.func49 rfl fun c₀ cs hu => ?_
  apply wpS_seq
  apply wpS_region
  simp [wpOpsS, go_sem, recoverD, hu, Tryz.ntmps49, Exit.thenS]
  refine wpS_of_wp ?_
  refine wp_block ?_
  refine wp_seq ?_
  refine wp_region ?_
  simp [wpOps, wpList, go_sem, Exit.then]
  repeat refine Or.inl ?_
  refine wp_cond_true (c := .tmp 7) ?_ ?_
  · simp [Act.eval, Array.replicate]
  refine wp_region ?_
  simp [wpOps, wpList, go_sem, Exit.then, Exit.inBlock]
  repeat refine Or.inl ?_
  cases c₀
  simp_all [bodyPostS, results, Tryz.results49]
end Go.Proofs.YtnpeakahiedeoaaGreatDoor
