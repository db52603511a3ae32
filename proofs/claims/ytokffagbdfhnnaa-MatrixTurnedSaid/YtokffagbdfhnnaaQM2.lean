import Derived.Test.YtokffagbdfhnnaaQR1
namespace Go.Proofs.Ytokffagbdfhnnaa
open Go.RowKit Go BigFrame
set_option maxRecDepth 100000
set_option linter.unusedSimpArgs false
set_option linter.unusedVariables false

/-! ref10: Make, cross, over, Cmp, Add, Sub, Mul, Quo, Floor. -/
theorem rcheckR_val {v : Value} {r : Rat} {w : World} (hv : RatV w v r) (l1 : Len r.num) (l2 : Len (r.den : Int)) : Calls Try.prog 66 #[v] w fun e w' => e = .returned (.int .i64 0) ∧ Ext w w' := by
  obtain ⟨nx, ax, qx, cx, bx, kx, dx, rfl⟩ := hv.form
  obtain ⟨l, rfl, hi, hb⟩ := hv.num.parts
  obtain ⟨m, rfl, hj, hc⟩ := hv.den.parts
  have := refR_Check nx false ax bx cx dx l m w hi hj
  rw [big_okR hb hc l1 l2] at this
  exact this
end Go.Proofs.Ytokffagbdfhnnaa

namespace Go.Proofs.Ytokffagbdfhnnaa
open Go.RowKit Go BigFrame
set_option maxRecDepth 100000
set_option linter.unusedSimpArgs false
set_option linter.unusedVariables false

/-! The reference's functions on arguments that are not valid. -/
end Go.Proofs.Ytokffagbdfhnnaa

