import Derived.Test.YtmcbbhlglccmgaaGreatESane0
import Derived.OwnWalk
import Derived.Deep.Cut
import Derived.Deep.RegionHeld3
import Derived.BigFrame
import Derived.Outline
import Derived.Deep.DeepCutAuto
namespace Go.Proofs.YtmcbbhlglccmgaaGreat
open Go.RowKit Go BigFrame
set_option maxRecDepth 100000
set_option linter.unusedSimpArgs false

/-- Orders: the number and the error. -/
def oE (l m : List Int) : Int := if listsE l.length m.length ≠ 0 then listsE l.length m.length else if (l.any outB || m.any outB) = true then 1 else 0
def oZ (l m : List Int) (sum : Int) : Int := if oE l m = 0 then (cntG mulP l m sum : Int) else 0
def mE (l m : List Int) : Int := listsE l.length m.length
def mZ (l m : List Int) (many : Int) : Int := if mE l m = 0 then (cntG eqP l m many : Int) else 0
theorem listsE_ok {a b : Nat} (h : listsE a b = 0) : a = b ∧ a ≤ 8 := by
  unfold listsE at h
  by_cases h1 : 8 < a ∨ 8 < b
  · rw [if_pos h1] at h; omega
  · rw [if_neg h1] at h
    by_cases h2 : a ≠ b
    · rw [if_pos h2] at h; omega
    · omega
theorem lists_panics (a a2 : Option Addr) (la lb cap cap2 : Nat) (h : listsE la lb ≠ 0) (W : World) :
    Calls Tryz.prog 83 #[.slice a la cap, .slice a2 lb cap2] W fun e w' => e = .panicked [{ v := .iface 28 (.int .i64 (listsE la lb)), recovered := false }] ∧ W = w' := by
  unfold listsE at h ⊢
  by_cases h1 : 8 < la ∨ 8 < lb
  · rw [if_pos h1]; exact exact_lists_limit a a2 la lb cap cap2 W h1
  · rw [if_neg h1] at h ⊢
    by_cases h2 : la ≠ lb
    · rw [if_pos h2]; exact exact_lists_arg a a2 la lb cap cap2 W (by omega) h2
    · rw [if_neg h2] at h; exact absurd rfl h
theorem exact_Orders_any (a a2 : Option Addr) (cap cap2 : Nat) (l m : List Int) (sum : Int) (w : World) (h : Ints w a cap l) (h2 : Ints w a2 cap2 m) (hs : -9223372036854775808 ≤ sum ∧ sum ≤ 9223372036854775807) :
    Calls Tryz.prog 45 #[.slice a l.length cap, .slice a2 m.length cap2, .int .i64 sum] w (IntP (oZ l m sum) (oE l m) w) := by
  unfold oZ oE
  by_cases h1 : listsE l.length m.length ≠ 0
  · rw [if_pos h1, if_neg h1]
    exact exact_Orders_bad a a2 l.length m.length cap cap2 sum _ w (lists_panics a a2 _ _ cap cap2 h1)
  · rw [if_neg h1]
    obtain ⟨e1, e2⟩ := listsE_ok (by simpa using h1)
    rw [← e1]
    by_cases h3 : (l.any outB || m.any outB) = true
    · rw [if_pos h3, if_neg (by omega)]
      exact exact_Orders_out l.length a a2 cap cap2 l m sum w h h2 rfl e1.symm e2 h3
    · rw [if_neg h3, if_pos rfl]
      have h4 : l.any outB = false ∧ m.any outB = false := by simpa using h3
      exact exact_Orders_ok l.length a a2 cap cap2 l m sum w h h2 rfl e1.symm e2 h4.1 h4.2 hs
theorem exact_Matches_any (a a2 : Option Addr) (cap cap2 : Nat) (l m : List Int) (many : Int) (w : World) (h : Ints w a cap l) (h2 : Ints w a2 cap2 m) (hs : -9223372036854775808 ≤ many ∧ many ≤ 9223372036854775807) :
    Calls Tryz.prog 40 #[.slice a l.length cap, .slice a2 m.length cap2, .int .i64 many] w (IntP (mZ l m many) (mE l m) w) := by
  unfold mZ mE
  by_cases h1 : listsE l.length m.length = 0
  · rw [if_pos h1, h1]
    obtain ⟨e1, e2⟩ := listsE_ok h1
    rw [← e1]
    exact exact_Matches_ok l.length a a2 cap cap2 l m many w h h2 rfl e1.symm e2 hs
  · rw [if_neg h1]
    exact exact_Matches_bad a a2 l.length m.length cap cap2 many _ w (lists_panics a a2 _ _ cap cap2 h1)
def SomeB (w : World) (e : Ending) (w' : World) : Prop := (∃ b, e = .returned (.bool b)) ∧ w = w'
end Go.Proofs.YtmcbbhlglccmgaaGreat
