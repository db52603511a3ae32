import Derived.Test.YtpaaanbcadlhiaaDoorPRead2
import Derived.Test.YtpaaanbcadlhiaaDoorPInt
import Derived.Test.YtpaaanbcadlhiaaDoorNMake
import Derived.Test.YtpaaanbcadlhiaaDoorNSame
namespace Go.Proofs.YtpaaanbcadlhiaaDoor
open Go.RowKit Go BigFrame
set_option maxRecDepth 100000
set_option linter.unusedSimpArgs false

/-! The values that law09.sane asks for. -/
theorem BigV.form {w : World} {v : Value} {z : Int} (h : BigV w v z) : ∃ n a q c, v = .agg #[.bool n, .slice a q c] := by
  obtain ⟨n, l, ⟨a, c, e, _⟩, _⟩ := h
  exact ⟨n, a, l.length, c, e⟩
theorem len_powN {z : Int} {n : Nat} (h : z.natAbs < 1073741824 ^ n) : (digs z.natAbs).length ≤ n := digs_len h
theorem sanI1 {v : Value} {w : World} (hv : BigV w v (-9223372036854775808)) : Calls Tryd.prog 25 #[v] w fun e w' => e = .returned (.tuple #[.int .i64 (-9223372036854775808), .bool true, .int .i64 0]) ∧ Ext w w' := by
  have h := int_val hv (Nat.le_trans (len_powN (n := 3) (by decide)) (by omega))
  rw [(fit_yes (z := -9223372036854775808) (by omega) (by omega)).1, (fit_yes (z := -9223372036854775808) (by omega) (by omega)).2] at h
  exact h
theorem sanI2 {v : Value} {w : World} (hv : BigV w v 9223372036854775808) : Calls Tryd.prog 25 #[v] w fun e w' => e = .returned (.tuple #[.int .i64 0, .bool false, .int .i64 0]) ∧ Ext w w' := by
  have h := int_val hv (Nat.le_trans (len_powN (n := 3) (by decide)) (by omega))
  rw [(fit_no (z := 9223372036854775808) (.inr (by omega))).1, (fit_no (z := 9223372036854775808) (.inr (by omega))).2] at h
  exact h
theorem sanM {v u : Value} {w : World} (hv : BigV w v 1073741823) (hu : BigV w u 1073741823) : Calls Tryd.prog 43 #[v, u] w (OneP 1152921502459363329 w) := by
  have h := mul_val hv hu (Nat.le_trans (len_powN (n := 1) (by decide)) (by omega)) (Nat.le_trans (len_powN (n := 1) (by decide)) (by omega)) (Nat.le_trans (len_powN (n := 2) (by decide)) (by omega))
  exact h
theorem sanD1 {v u : Value} {w : World} (hv : BigV w v (-7)) (hu : BigV w u 2) : Calls Tryd.prog 14 #[v, u] w fun e w' => ∃ v u, e = .returned (.tuple #[v, u, .int .i64 0]) ∧ BigV w' v (-4) ∧ BigV w' u 1 ∧ Ext w w' :=
  div_val (K := 1) (by omega) div_ok1 hv hu (len_powN (n := 1) (by decide)) (len_powN (n := 1) (by decide)) (by omega)
theorem sanD2 {v u : Value} {w : World} (hv : BigV w v (-7)) (hu : BigV w u (-2)) : Calls Tryd.prog 14 #[v, u] w fun e w' => ∃ v u, e = .returned (.tuple #[v, u, .int .i64 0]) ∧ BigV w' v 4 ∧ BigV w' u 1 ∧ Ext w w' :=
  div_val (K := 1) (by omega) div_ok1 hv hu (len_powN (n := 1) (by decide)) (len_powN (n := 1) (by decide)) (by omega)
theorem div_zero {v : Value} {z : Int} {w : World} (hv : BigV w v z) (hz : Len z) : Calls Tryd.prog 14 #[v, zeroBig] w fun e w' => e = .returned (.tuple #[zeroBig, zeroBig, .int .i64 1]) ∧ Ext w w' := by
  obtain ⟨n1, l, ⟨a, ca, rfl, hi⟩, hb⟩ := hv
  exact nat_Div_zero n1 false a none ca 0 l w hi ⟨Nat.le_refl _, by omega, fun _ => rfl, fun A hA => by cases hA⟩ (hb.chk hz) rfl
theorem sanG {v u : Value} {w : World} (hv : BigV w v (-12)) (hu : BigV w u 18) : Calls Tryd.prog 16 #[v, u] w fun e w' => ∃ v, e = .returned (.tuple #[v, .int .i64 0]) ∧ BigV w' v 6 ∧ Ext w w' :=
  gcd_val (K := 1) (by omega) div_ok1 hv hu (len_powN (n := 1) (by decide)) (len_powN (n := 1) (by decide))
theorem sanC (w : World) : Calls Tryd.prog 19 #[.int .i64 5, .int .i64 2] w (OneP 10 w) := nat_Choose 5 2 w (by omega) (by omega)
theorem sanC2 (w : World) : Calls Tryd.prog 19 #[.int .i64 (-1), .int .i64 0] w fun e w' => e = .returned (.tuple #[zeroBig, .int .i64 1]) ∧ Ext w w' := nat_Choose_arg (-1) 0 w (by omega)
theorem sanC3 (w : World) : Calls Tryd.prog 19 #[.int .i64 5, .int .i64 6] w fun e w' => e = .returned (.tuple #[zeroBig, .int .i64 0]) ∧ Ext w w' := nat_Choose_none 5 6 w (by omega) (by omega)
abbrev minS : ByteArray := ⟨#[45, 57, 50, 50, 51, 51, 55, 50, 48, 51, 54, 56, 53, 52, 55, 55, 53, 56, 48, 56]⟩
theorem minTxt : (⟨(txtL (-9223372036854775808)).toArray⟩ : ByteArray) = minS := by
  have h : (decL 9223372036854775808).reverse = Lib.trimLeftB (dgs 19 9223372036854775808).reverse 48 := (trim_text (by decide)).symm
  rw [txt_pos (by decide), if_pos (by decide), show (-9223372036854775808 : Int).natAbs = 9223372036854775808 from rfl, h]
  decide +kernel
theorem sanT {v : Value} {w : World} (hv : BigV w v (-9223372036854775808)) : Calls Tryd.prog 21 #[v] w fun e w' => e = .returned (.tuple #[.string minS, .int .i64 0]) ∧ Ext w w' := by
  have h := text_val hv (Nat.le_trans (len_powN (n := 3) (by decide)) (by omega))
  unfold TextP at h
  rw [minTxt] at h
  exact h
theorem sanR (w : World) : Calls Tryd.prog 23 #[.string minS] w (OneP (-9223372036854775808) w) :=
  (read_val minS w (by decide)).mono fun _ _ h => h.2 _ (by decide +kernel)
theorem sanRb (s : ByteArray) (w : World) (hs : s.size ≤ 1000) (h : readL s.data.toList = none) : Calls Tryd.prog 23 #[.string s] w fun e w' => e = .returned (.tuple #[zeroBig, .int .i64 90]) ∧ Ext w w' :=
  (read_val s w hs).mono fun _ _ hh => hh.1 h
theorem sameT {x y : Value} {z z2 : Int} {w : World} (h : BigV w x z) (h2 : BigV w y z2) (e : z = z2) : Calls Tryd.prog 18 #[x, y] w fun e w' => e = .returned (.bool true) ∧ Ext w w' := by
  have := ref_Same_val h h2
  rwa [decide_eq_true e] at this
theorem sanK1 (a : Option Addr) (w : World) (h : Ints w a 2 [5, 0]) : Calls Tryd.prog 27 #[.agg #[.bool false, .slice a 2 2]] w fun e w' => e = .returned (.int .i64 90) ∧ Ext w w' := nat_Check false a 2 [5, 0] w h
theorem sanK2 (w : World) : Calls Tryd.prog 27 #[.agg #[.bool true, .slice none 0 0]] w fun e w' => e = .returned (.int .i64 90) ∧ Ext w w' := nat_Check true none 0 [] w ⟨Nat.le_refl _, by omega, fun _ => rfl, fun A hA => by cases hA⟩
theorem sanK3 (a : Option Addr) (w : World) (h : Ints w a 1 [1073741824]) : Calls Tryd.prog 27 #[.agg #[.bool false, .slice a 1 1]] w fun e w' => e = .returned (.int .i64 90) ∧ Ext w w' := nat_Check false a 1 [1073741824] w h
theorem sanK4 (w : World) : Calls Tryd.prog 27 #[.agg #[.bool false, .slice none 0 0]] w fun e w' => e = .returned (.int .i64 0) ∧ Ext w w' := nat_Check false none 0 [] w ⟨Nat.le_refl _, by omega, fun _ => rfl, fun A hA => by cases hA⟩
theorem cell_ext {w w' : World} {b o : Nat} {v : Value} (hx : Ext w w') (h : w.cell? ⟨b, o, none⟩ = some v) : w'.cell? ⟨b, o, none⟩ = some v := (hx.cell (p := ⟨b, o, none⟩) (lt_of_cell h)).trans h
theorem bigMin : Big false [0, 0, 8] 9223372036854775808 := ⟨by simp [Norm], by simp, by simp [dval]⟩
theorem bigMinN : Big true [0, 0, 8] (-9223372036854775808) := ⟨by simp [Norm], by simp, by simp [dval]⟩
theorem bigTop : Big false [1073741823] 1073741823 := ⟨by simp [Norm], by simp, by simp [dval]⟩
theorem bigProd : Big false [1, 1073741822] 1152921502459363329 := ⟨by simp [Norm], by simp, by simp [dval]⟩
end Go.Proofs.YtpaaanbcadlhiaaDoor
