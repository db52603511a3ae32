import Derived.Test.YtpaaanbcadlhiaaDoorPSane
import Derived.Test.YtpaaanbcadlhiaaDoorPFew
import Derived.Test.YtpaaanbcadlhiaaDoorPValid
namespace Go.Proofs.YtpaaanbcadlhiaaDoor
open Go.RowKit Go BigFrame
set_option maxRecDepth 100000
set_option linter.unusedSimpArgs false

/-! What both programs hand back, on any two integers, valid or not. -/
/-- An integer and an error. -/
def PairP (z E : Int) (w : World) (e : Ending) (w' : World) : Prop := ∃ v, e = .returned (.tuple #[v, .int .i64 E]) ∧ BigV w' v z ∧ Ext w w'
theorem PairP.zero {E : Int} {w w' : World} {e : Ending} (h : e = .returned (.tuple #[zeroBig, .int .i64 E]) ∧ Ext w w') : PairP 0 E w e w' := ⟨_, h.1, BigV.zero _, h.2⟩
theorem PairP.one {z : Int} {w w' : World} {e : Ending} (h : OneP z w e w') : PairP z 0 w e w' := by
  obtain ⟨v, he, hv, hx⟩ := h
  exact ⟨v, he, hv.val, hx⟩
theorem PairP.op {z : Int} {w w' : World} {e : Ending} (hl : Len z) (h : OpP z w e w') : PairP z 0 w e w' := by
  rcases h with ⟨_, h⟩ | ⟨h, _⟩
  · exact PairP.one h
  · unfold Len at hl; omega
/-- Both programs, from any later world on, hand back the same integer and the same error. -/
def Both (f g : FuncId) (args : Array Value) (w : World) : Prop := ∃ z E, ∀ W, Ext w W → Calls Tryd.prog f args W (PairP z E W) ∧ Calls Tryd.prog g args W (PairP z E W)
section
variable {n1 n2 : Bool} {a b : Option Addr} {ca cb : Nat} {l m : List Int} {w : World}
theorem both_Add (h : Ints w a ca l) (k : Ints w b cb m) (f1 : fewN l.length = true) (f2 : fewN m.length = true) :
    Both 39 40 #[.agg #[.bool n1, .slice a l.length ca], .agg #[.bool n2, .slice b m.length cb]] w := by
  by_cases hb : (chkB n1 l && chkB n2 m) = true
  · obtain ⟨h1, h2⟩ := (Bool.and_eq_true _ _).mp hb
    have z1 := (of_chk h1).1
    have z2 := (of_chk h2).1
    have hr := few_room (n1 := n1) (n2 := n2) z1.1.digs z2.1.digs (few_valid f1 h1) (few_valid f2 h2)
    have L1 : Len (sgn n1 (dval l)) := by have := (of_chk h1).2; unfold Len; rw [← z1.digs]; exact this
    have L2 : Len (sgn n2 (dval m)) := by have := (of_chk h2).2; unfold Len; rw [← z2.digs]; exact this
    refine ⟨_, 0, fun W hx => ⟨(add_val ⟨n1, l, ⟨a, ca, rfl, h.ext hx⟩, z1⟩ ⟨n2, m, ⟨b, cb, rfl, k.ext hx⟩, z2⟩ L1 L2).mono fun e w' hh => PairP.op hr.1 hh,
      (rAdd_val ⟨n1, l, ⟨a, ca, rfl, h.ext hx⟩, z1⟩ ⟨n2, m, ⟨b, cb, rfl, k.ext hx⟩, z2⟩ L1 L2 hr.1).mono fun e w' hh => PairP.one hh⟩⟩
  · have hb' : (chkB n1 l && chkB n2 m) = false := by simpa using hb
    exact ⟨0, 90, fun W hx => ⟨(nat_Add_bad n1 n2 a b ca cb l m W (h.ext hx) (k.ext hx) hb').mono fun e w' hh => PairP.zero hh, (ref_Add_bad n1 n2 a b ca cb l m W (h.ext hx) (k.ext hx) hb').mono fun e w' hh => PairP.zero hh⟩⟩
theorem both_Sub (h : Ints w a ca l) (k : Ints w b cb m) (f1 : fewN l.length = true) (f2 : fewN m.length = true) :
    Both 41 42 #[.agg #[.bool n1, .slice a l.length ca], .agg #[.bool n2, .slice b m.length cb]] w := by
  by_cases hb : (chkB n1 l && chkB n2 m) = true
  · obtain ⟨h1, h2⟩ := (Bool.and_eq_true _ _).mp hb
    have z1 := (of_chk h1).1
    have z2 := (of_chk h2).1
    have hr := few_room (n1 := n1) (n2 := n2) z1.1.digs z2.1.digs (few_valid f1 h1) (few_valid f2 h2)
    have L1 : Len (sgn n1 (dval l)) := by have := (of_chk h1).2; unfold Len; rw [← z1.digs]; exact this
    have L2 : Len (sgn n2 (dval m)) := by have := (of_chk h2).2; unfold Len; rw [← z2.digs]; exact this
    refine ⟨_, 0, fun W hx => ⟨(sub_val ⟨n1, l, ⟨a, ca, rfl, h.ext hx⟩, z1⟩ ⟨n2, m, ⟨b, cb, rfl, k.ext hx⟩, z2⟩ L1 L2).mono fun e w' hh => PairP.op hr.2.1 hh,
      (rSub_val ⟨n1, l, ⟨a, ca, rfl, h.ext hx⟩, z1⟩ ⟨n2, m, ⟨b, cb, rfl, k.ext hx⟩, z2⟩ L1 L2 hr.2.1).mono fun e w' hh => PairP.one hh⟩⟩
  · have hb' : (chkB n1 l && chkB n2 m) = false := by simpa using hb
    exact ⟨0, 90, fun W hx => ⟨(nat_Sub_bad n1 n2 a b ca cb l m W (h.ext hx) (k.ext hx) hb').mono fun e w' hh => PairP.zero hh, (ref_Sub_bad n1 n2 a b ca cb l m W (h.ext hx) (k.ext hx) hb').mono fun e w' hh => PairP.zero hh⟩⟩
theorem both_Mul (h : Ints w a ca l) (k : Ints w b cb m) (f1 : fewN l.length = true) (f2 : fewN m.length = true) :
    Both 43 44 #[.agg #[.bool n1, .slice a l.length ca], .agg #[.bool n2, .slice b m.length cb]] w := by
  by_cases hb : (chkB n1 l && chkB n2 m) = true
  · obtain ⟨h1, h2⟩ := (Bool.and_eq_true _ _).mp hb
    have z1 := (of_chk h1).1
    have z2 := (of_chk h2).1
    have hr := few_room (n1 := n1) (n2 := n2) z1.1.digs z2.1.digs (few_valid f1 h1) (few_valid f2 h2)
    have L1 : Len (sgn n1 (dval l)) := by have := (of_chk h1).2; unfold Len; rw [← z1.digs]; exact this
    have L2 : Len (sgn n2 (dval m)) := by have := (of_chk h2).2; unfold Len; rw [← z2.digs]; exact this
    refine ⟨_, 0, fun W hx => ⟨(mul_val ⟨n1, l, ⟨a, ca, rfl, h.ext hx⟩, z1⟩ ⟨n2, m, ⟨b, cb, rfl, k.ext hx⟩, z2⟩ L1 L2 hr.2.2).mono fun e w' hh => PairP.one hh,
      (rMul_val ⟨n1, l, ⟨a, ca, rfl, h.ext hx⟩, z1⟩ ⟨n2, m, ⟨b, cb, rfl, k.ext hx⟩, z2⟩ L1 L2 hr.2.2).mono fun e w' hh => PairP.one hh⟩⟩
  · have hb' : (chkB n1 l && chkB n2 m) = false := by simpa using hb
    exact ⟨0, 90, fun W hx => ⟨(nat_Mul_bad n1 n2 a b ca cb l m W (h.ext hx) (k.ext hx) hb').mono fun e w' hh => PairP.zero hh, (ref_Mul_bad n1 n2 a b ca cb l m W (h.ext hx) (k.ext hx) hb').mono fun e w' hh => PairP.zero hh⟩⟩
end
end Go.Proofs.YtpaaanbcadlhiaaDoor
