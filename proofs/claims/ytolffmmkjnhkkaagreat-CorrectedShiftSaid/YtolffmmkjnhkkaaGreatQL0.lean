import Derived.Test.YtolffmmkjnhkkaaGreatQ5
import Derived.Test.YtolffmmkjnhkkaaGreatQM1
import Derived.Test.YtolffmmkjnhkkaaGreatQM2
import Derived.Test.YtolffmmkjnhkkaaGreatQS
namespace Go.Proofs.YtolffmmkjnhkkaaGreat
open Go.RowKit Go BigFrame
set_option maxRecDepth 100000
set_option linter.unusedSimpArgs false
set_option linter.unusedVariables false

/-! Quo by 0; law10.small, is; what both programs hand back. -/
/-- A result and an error. -/
def ResP (z y E : Int) (w : World) (e : Ending) (w' : World) : Prop := ∃ (n : Bool) (a : Option Addr) (q c : Nat) (m : Bool) (b : Option Addr) (k d : Nat), e = .returned (.tuple #[.agg #[.bool n, .slice a q c, .bool m, .slice b k d], .int .i64 E]) ∧ BigV w' (.agg #[.bool n, .slice a q c]) z ∧ BigV w' (.agg #[.bool m, .slice b k d]) y ∧ Ext w w'
theorem ResP.ok {r : Rat} {w w' : World} {e : Ending} (h : RatP r w e w') : ResP r.num r.den 0 w e w' := by
  obtain ⟨v, he, ⟨n, a, q, c, b, k, d, rfl, hv, _⟩, hx⟩ := h
  exact ⟨n, a, q, c, false, b, k, d, he, hv.num, hv.den, hx⟩
/-- Both programs, from any later world on, hand back the same. -/
def BothR (f g : FuncId) (args : Array Value) (w : World) : Prop := ∃ z y E : Int, ∀ W, Ext w W → Calls Tryz.prog f args W (ResP z y E W) ∧ Calls Tryz.prog g args W (ResP z y E W)
/-- The parts of a ratio, in memory. -/
structure RatI (w : World) (x : RatA) : Prop where
  i : Ints w x.a x.c x.l
  j : Ints w x.b x.d x.m
theorem RatI.ext {w w' : World} {x : RatA} (h : RatI w x) (k : Ext w w') : RatI w' x := ⟨h.i.ext k, h.j.ext k⟩
def fewR (x : RatA) : Bool := fewQ x.l.length 6 && fewQ x.m.length 6
/-- Valid ratios among those: at most 6 digits. -/
theorem few_sz {x : RatA} (ho : x.ok = true) (hf : fewR x = true) : ∃ r : Rat, Sz r 6 ∧ ∀ w, RatI w x → RatV w x.val r := by
  obtain ⟨r, h1, h2, h3, h4, h5, h6⟩ := okR_rat ho
  unfold fewR fewQ at hf
  simp only [Bool.and_eq_true, Bool.or_eq_true, decide_eq_true_eq] at hf
  have m1 : (1073741824 : Nat) ^ x.l.length ≤ 1073741824 ^ 6 := Nat.pow_le_pow_right (by omega) (by omega)
  have m2 : (1073741824 : Nat) ^ x.m.length ≤ 1073741824 ^ 6 := Nat.pow_le_pow_right (by omega) (by omega)
  exact ⟨r, ⟨Nat.lt_of_lt_of_le h3 m1, Nat.lt_of_lt_of_le h4 m2⟩, fun w hi => ok_val hi.i hi.j h1 h2⟩
/-- An integer and an error. -/
def PairQ (z E : Int) (w : World) (e : Ending) (w' : World) : Prop := ∃ (n : Bool) (a : Option Addr) (q c : Nat), e = .returned (.tuple #[.agg #[.bool n, .slice a q c], .int .i64 E]) ∧ BigV w' (.agg #[.bool n, .slice a q c]) z ∧ Ext w w'
theorem PairQ.one {z : Int} {w w' : World} {e : Ending} (h : OneP z w e w') : PairQ z 0 w e w' := by
  obtain ⟨v, he, hv, hx⟩ := h
  obtain ⟨n, a, q, c, rfl, hv, _⟩ := hv.two
  exact ⟨n, a, q, c, he, hv, hx⟩
end Go.Proofs.YtolffmmkjnhkkaaGreat
