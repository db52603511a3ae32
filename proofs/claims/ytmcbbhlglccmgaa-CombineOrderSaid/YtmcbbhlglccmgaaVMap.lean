import Derived.Test.YtmcbbhlglccmgaaQ0
import Derived.Maps.Own
import Derived.Maps.OwnSet
import Derived.Maps.Keyed
namespace Go.Proofs.Ytmcbbhlglccmgaa
open Go.RowKit Go Go.Maps
set_option maxRecDepth 100000
set_option linter.unusedSimpArgs false
set_option linter.unusedVariables false

/-! A map of three functions. -/
theorem wpList_insert_run {P : Program} {w w' : World} {ops : Array Oper} {rest : List Oper} {o : Oper} {a : Act} {Q : Exit → Act → World → Prop} (hg : o.guard = none) {t : TypeId} {m x v : Operand} (hop : o.op = Op.insert t m x v)
    {M X V : Value} (hm : a.eval m = M) (hx : a.eval x = X) (hv : a.eval v = V) (hrun : (Instr.mapUpdate t M X V).run P w = .ok () w') (hK : wpList P ops Q rest (a.put o.dst undef) w') : wpList P ops Q (o :: rest) a w := by
  refine wpList_plain hg fun K' hK' => ?_
  unfold Oper.wp
  simp [execOp, hop, hm, hx, hv, hrun, Result.andThen]
  exact hK' _ _ hK
abbrev keyD (n : Int) : Lit := .int .i64 n
abbrev datD (n : Int) : DataW Unit := .lit (.int .i64 n)
theorem keyD_of (n : Int) (h : -1000 ≤ n ∧ n ≤ 1000) : keyOf Try.prog 3 (.int .i64 n) = some (keyD n) := keyOf_int_mk Try.underlying3 (by
  have a : IntKind.i64.min = -9223372036854775808 := by decide
  have b : IntKind.i64.max = 9223372036854775807 := by decide
  simp [Lit.wf, a, b]; omega)
theorem ways_map (f1 f2 f3 : Value) (h1 : f1 ≠ .nilFunc) (h2 : f2 ≠ .nilFunc) (h3 : f3 ≠ .nilFunc) (h12 : f1 ≠ f2) (h13 : f1 ≠ f3) (h23 : f2 ≠ f3) (w : World) :
    ∃ wA wB wC, (Instr.mapUpdate 87 (.map (some w.heap.size)) (.int .i64 1) f1).run Try.prog (w.alloc (.map #[] 0)) = .ok () wA ∧
      (Instr.mapUpdate 87 (.map (some w.heap.size)) (.int .i64 2) f2).run Try.prog wA = .ok () wB ∧
      (Instr.mapUpdate 87 (.map (some w.heap.size)) (.int .i64 3) f3).run Try.prog wB = .ok () wC ∧ Ext w wC ∧
      ∀ W, Ext wC W → (Instr.lookup 87 (.map (some w.heap.size)) (.int .i64 1) false).run Try.prog W = .ok f1 W ∧
        (Instr.lookup 87 (.map (some w.heap.size)) (.int .i64 2) false).run Try.prog W = .ok f2 W ∧
        (Instr.lookup 87 (.map (some w.heap.size)) (.int .i64 3) false).run Try.prog W = .ok f3 W := by
  classical
  obtain ⟨R, r0, r1, r2, r3, hR⟩ : ∃ R : Value → Option (DataW Unit × List MemPlace), R .nilFunc = some (datD 0, []) ∧ R f1 = some (datD 1, []) ∧ R f2 = some (datD 2, []) ∧ R f3 = some (datD 3, []) ∧
      ∀ v ps, (R v = some (datD 1, ps) → v = f1) ∧ (R v = some (datD 2, ps) → v = f2) ∧ (R v = some (datD 3, ps) → v = f3) := by
    refine ⟨fun v => if v = f1 then some (datD 1, []) else if v = f2 then some (datD 2, []) else if v = f3 then some (datD 3, []) else some (datD 0, []), ?_, ?_, ?_, ?_, fun v ps => ?_⟩
    · simp [Ne.symm h1, Ne.symm h2, Ne.symm h3]
    · simp
    · simp [Ne.symm h12]
    · simp [Ne.symm h13, Ne.symm h23]
    · by_cases e1 : v = f1
      · simp [e1]
      · by_cases e2 : v = f2
        · simp [e1, e2, Ne.symm h12]
        · by_cases e3 : v = f3
          · simp [e1, e2, e3, Ne.symm h13, Ne.symm h23]
          · simp [e1, e2, e3]
  have K : Keyed Try.prog 3 := int_keyed Try.underlying3
  have ht := Try.underlying87
  have hm0 := World.ownsMap_made w Try.prog 3 R
  obtain ⟨wA, eA, hA, gA⟩ := hm0.update K ht (by unfold maxLen; omega) (keyD_of 1 (by omega)) r1
  obtain ⟨wB, eB, hB, gB⟩ := hA.update K ht (by unfold maxLen; omega) (keyD_of 2 (by omega)) r2
  obtain ⟨wC, eC, hC, gC⟩ := hB.update K ht (by unfold maxLen; omega) (keyD_of 3 (by omega)) r3
  have hx0 : Below w.heap.size w (w.alloc (.map #[] 0)) := (Below.refl _ w).alloc (Nat.le_refl _) _
  have hx : Ext w wC := ((hx0.grown gA hx0.size (fun k e => by cases e; omega)).grown gB (Nat.le_trans hx0.size gA.size) (fun k e => by cases e; omega)).grown gC (Nat.le_trans hx0.size (Nat.le_trans gA.size gB.size)) (fun k e => by cases e; omega)
  refine ⟨wA, wB, wC, eA, eB, eC, hx, fun W hW => ?_⟩
  have hCW := (show ∀ D, wC.ownsMap Try.prog 3 R w.heap.size (0 + 1 + 1 + 1) D → W.ownsMap Try.prog 3 R w.heap.size 3 D from fun D ⟨es, clock, hb, F, hs, hD⟩ =>
    ⟨es, clock, (hW.block _ (Array.getElem?_eq_some_iff.1 hb).1).trans hb, F, hs, hD⟩) _ hC
  have hz : (zeroValue 86).run Try.prog W = .ok .nilFunc W := by kernel_rfl
  refine ⟨?_, ?_, ?_⟩
  · obtain ⟨v, ps, hrun, hv⟩ := hCW.lookup K ht hz r0 (keyD_of 1 (by omega))
    rw [hrun, (hR v ps).1 (hv.trans (by rfl))]
  · obtain ⟨v, ps, hrun, hv⟩ := hCW.lookup K ht hz r0 (keyD_of 2 (by omega))
    rw [hrun, (hR v ps).2.1 (hv.trans (by rfl))]
  · obtain ⟨v, ps, hrun, hv⟩ := hCW.lookup K ht hz r0 (keyD_of 3 (by omega))
    rw [hrun, (hR v ps).2.2 (hv.trans (by rfl))]
end Go.Proofs.Ytmcbbhlglccmgaa
