import Derived.Test.YtpaaanbcadlhiaaDoorPLaw1
import Derived.Test.YtpaaanbcadlhiaaDoorPRefG
import Derived.Test.YtpaaanbcadlhiaaDoorPRefV
import Derived.Test.YtpaaanbcadlhiaaDoorPRefC
import Derived.Test.YtpaaanbcadlhiaaDoorPDivG
namespace Go.Proofs.YtpaaanbcadlhiaaDoor
open Go.RowKit Go BigFrame
set_option maxRecDepth 100000
set_option linter.unusedSimpArgs false

/-! What both programs hand back for Div, Gcd and Choose. -/
def TripP (z y E : Int) (w : World) (e : Ending) (w' : World) : Prop := ∃ v u, e = .returned (.tuple #[v, u, .int .i64 E]) ∧ BigV w' v z ∧ BigV w' u y ∧ Ext w w'
theorem TripP.zero {E : Int} {w w' : World} {e : Ending} (h : e = .returned (.tuple #[zeroBig, zeroBig, .int .i64 E]) ∧ Ext w w') : TripP 0 0 E w e w' := ⟨_, _, h.1, BigV.zero _, BigV.zero _, h.2⟩
theorem TripP.div {z y : Int} {w w' : World} {e : Ending} (h : DivO z y w e w') : TripP (z / y) (z % y) 0 w e w' := h
def Both3 (f g : FuncId) (args : Array Value) (w : World) : Prop := ∃ z y E, ∀ W, Ext w W → Calls Tryd.prog f args W (TripP z y E W) ∧ Calls Tryd.prog g args W (TripP z y E W)
section
variable {n1 n2 : Bool} {a b : Option Addr} {ca cb : Nat} {l m : List Int} {w : World}
theorem both_Div (h : Ints w a ca l) (k : Ints w b cb m) :
    Both3 14 15 #[.agg #[.bool n1, .slice a l.length ca], .agg #[.bool n2, .slice b m.length cb]] w := by
  by_cases hb : (chkB n1 l && chkB n2 m) = true
  · obtain ⟨h1, h2⟩ := (Bool.and_eq_true _ _).mp hb
    by_cases hm : m = []
    · subst hm
      exact ⟨0, 0, 1, fun W hx => ⟨(nat_Div_zero n1 n2 a b ca cb l W (h.ext hx) (k.ext hx) h1 h2).mono fun e w' hh => TripP.zero hh, (ref_Div_zero n1 n2 a b ca cb l [] W (h.ext hx) (k.ext hx) h1 h2 rfl).mono fun e w' hh => TripP.zero hh⟩⟩
    · have z1 := (of_chk h1).1
      have z2 := (of_chk h2).1
      have L1 : Len (sgn n1 (dval l)) := by have := (of_chk h1).2; unfold Len; rw [← z1.digs]; exact this
      have L2 : Len (sgn n2 (dval m)) := by have := (of_chk h2).2; unfold Len; rw [← z2.digs]; exact this
      have hne : sgn n2 (dval m) ≠ 0 := by
        have := dval_pos z2.1 hm
        unfold sgn; split <;> omega
      exact ⟨_, _, 0, fun W hx => ⟨(div_any ⟨n1, l, ⟨a, ca, rfl, h.ext hx⟩, z1⟩ ⟨n2, m, ⟨b, cb, rfl, k.ext hx⟩, z2⟩ L1 L2 hne).mono fun e w' hh => TripP.div hh,
        (rDiv_val ⟨n1, l, ⟨a, ca, rfl, h.ext hx⟩, z1⟩ ⟨n2, m, ⟨b, cb, rfl, k.ext hx⟩, z2⟩ L1 L2 hne).mono fun e w' hh => TripP.div hh⟩⟩
  · have hb' : (chkB n1 l && chkB n2 m) = false := by simpa using hb
    exact ⟨0, 0, 90, fun W hx => ⟨(nat_Div_bad n1 n2 a b ca cb l m W (h.ext hx) (k.ext hx) hb').mono fun e w' hh => TripP.zero hh, (ref_Div_bad n1 n2 a b ca cb l m W (h.ext hx) (k.ext hx) hb').mono fun e w' hh => TripP.zero hh⟩⟩
theorem GcdP.pair {z : Int} {w w' : World} {e : Ending} (h : GcdP z w e w') : PairP z 0 w e w' := h
theorem both_Gcd (h : Ints w a ca l) (k : Ints w b cb m) :
    Both 16 17 #[.agg #[.bool n1, .slice a l.length ca], .agg #[.bool n2, .slice b m.length cb]] w := by
  by_cases hb : (chkB n1 l && chkB n2 m) = true
  · obtain ⟨h1, h2⟩ := (Bool.and_eq_true _ _).mp hb
    have z1 := (of_chk h1).1
    have z2 := (of_chk h2).1
    have L1 : Len (sgn n1 (dval l)) := by have := (of_chk h1).2; unfold Len; rw [← z1.digs]; exact this
    have L2 : Len (sgn n2 (dval m)) := by have := (of_chk h2).2; unfold Len; rw [← z2.digs]; exact this
    exact ⟨_, 0, fun W hx => ⟨(gcd_any ⟨n1, l, ⟨a, ca, rfl, h.ext hx⟩, z1⟩ ⟨n2, m, ⟨b, cb, rfl, k.ext hx⟩, z2⟩ L1 L2).mono fun e w' hh => GcdP.pair hh,
      (rGcd_val ⟨n1, l, ⟨a, ca, rfl, h.ext hx⟩, z1⟩ ⟨n2, m, ⟨b, cb, rfl, k.ext hx⟩, z2⟩ L1 L2).mono fun e w' hh => GcdP.pair hh⟩⟩
  · have hb' : (chkB n1 l && chkB n2 m) = false := by simpa using hb
    exact ⟨0, 90, fun W hx => ⟨(nat_Gcd_bad n1 n2 a b ca cb l m W (h.ext hx) (k.ext hx) hb').mono fun e w' hh => PairP.zero hh, (ref_Gcd_bad n1 n2 a b ca cb l m W (h.ext hx) (k.ext hx) hb').mono fun e w' hh => PairP.zero hh⟩⟩
end
theorem both_Choose (n k : Int) (w : World) : Both 19 20 #[.int .i64 n, .int .i64 k] w := by
  by_cases hn : 0 ≤ n ∧ n ≤ 4096
  · obtain ⟨nn, rfl⟩ : ∃ nn : Nat, n = nn := ⟨n.toNat, by omega⟩
    exact ⟨_, 0, fun W hx => ⟨choose_any nn k W (by omega), rChoose_any nn k W (by omega)⟩⟩
  · exact ⟨0, 1, fun W hx => ⟨(nat_Choose_arg n k W (by omega)).mono fun e w' hh => PairP.zero hh, ref_Choose_arg n k W (by omega)⟩⟩
end Go.Proofs.YtpaaanbcadlhiaaDoor
