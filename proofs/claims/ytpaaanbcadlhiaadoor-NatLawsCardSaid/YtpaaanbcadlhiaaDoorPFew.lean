import Derived.Test.YtpaaanbcadlhiaaDoorPRefB
namespace Go.Proofs.YtpaaanbcadlhiaaDoor
open Go.RowKit Go BigFrame Go.Shelf
set_option maxRecDepth 100000
set_option linter.unusedSimpArgs false

def fewN (n : Nat) : Bool := decide (n ≤ 12) || (decide (2048 < n) && decide (n ≤ 2060))
theorem ref_Few (neg : Bool) (a : Option Addr) (cap : Nat) (l : List Int) (w : World) :
    Calls Tryd.prog 13 #[.agg #[.bool neg, .slice a l.length cap]] w fun e w' => e = .returned (.bool (fewN l.length)) ∧ Ext w w' := by
  have hx := Ext.alloc w (.cells #[.bool neg, .slice a l.length cap] 24)
  have B1 := Lib.hid (Blk.new0 w #[.bool neg, .slice a l.length cap] 24)
  have c2 := B1.out.cell (i := 1) (v := .slice a l.length cap) rfl
  generalize l.length = n at *
  by_cases h1 : n ≤ 12
  · have d1 : decide ((n : Int) ≤ 12) = true := by simp only [decide_eq_true_eq]; omega
    have HF := Lib.hid (show fewN n = true by unfold fewN; rw [decide_eq_true h1]; rfl)
    go_enter Tryd.func13, Tryd.ntmps13
    go_upto_region 1 with fail
    generalize w.alloc (.cells #[.bool neg, .slice a n cap] 24) = w1 at *
    go_wp2_with fail
    go_ret
    exact ⟨by rw [HF.out]; rfl, hx⟩
  · have d1 : decide ((n : Int) ≤ 12) = false := by simp only [decide_eq_false_iff_not]; omega
    by_cases h2 : 2048 < n
    · have d2 : decide (2048 < (n : Int)) = true := by simp only [decide_eq_true_eq]; omega
      by_cases h3 : n ≤ 2060
      · have d3 : decide ((n : Int) ≤ 2060) = true := by simp only [decide_eq_true_eq]; omega
        have HF := Lib.hid (show fewN n = true by unfold fewN; rw [decide_eq_true h2, decide_eq_true h3]; simp)
        go_enter Tryd.func13, Tryd.ntmps13
        go_upto_region 1 with fail
        generalize w.alloc (.cells #[.bool neg, .slice a n cap] 24) = w1 at *
        go_wp2_with fail
        go_ret
        exact ⟨by rw [HF.out]; rfl, hx⟩
      · have d3 : decide ((n : Int) ≤ 2060) = false := by simp only [decide_eq_false_iff_not]; omega
        have HF := Lib.hid (show fewN n = false by unfold fewN; rw [decide_eq_false h1, decide_eq_false h3]; simp)
        go_enter Tryd.func13, Tryd.ntmps13
        go_upto_region 1 with fail
        generalize w.alloc (.cells #[.bool neg, .slice a n cap] 24) = w1 at *
        go_wp2_with fail
        go_ret
        exact ⟨by rw [HF.out]; rfl, hx⟩
    · have d2 : decide (2048 < (n : Int)) = false := by simp only [decide_eq_false_iff_not]; omega
      have HF := Lib.hid (show fewN n = false by unfold fewN; rw [decide_eq_false h1, decide_eq_false h2]; simp)
      go_enter Tryd.func13, Tryd.ntmps13
      go_upto_region 1 with fail
      generalize w.alloc (.cells #[.bool neg, .slice a n cap] 24) = w1 at *
      go_wp2_with fail
      go_ret
      exact ⟨by rw [HF.out]; rfl, hx⟩
/-- What few means of integers: valid ones have at most 12 digits. -/
theorem few_valid {neg : Bool} {l : List Int} (hf : fewN l.length = true) (hc : chkB neg l = true) : l.length ≤ 12 := by
  have := (chk_iff.1 hc).1
  unfold fewN at hf
  simp only [Bool.or_eq_true, Bool.and_eq_true, decide_eq_true_eq] at hf
  omega
theorem len_pow {z : Int} {n : Nat} (h : z.natAbs < 1073741824 ^ n) (hn : n ≤ 2048) : Len z := Nat.le_trans (digs_len h) hn
/-- Sums, differences and products of integers of at most 12 digits have room. -/
theorem few_room {n1 n2 : Bool} {l m : List Int} (hl : Digs l) (hm : Digs m) (h1 : l.length ≤ 12) (h2 : m.length ≤ 12) :
    Len (sgn n1 (dval l) + sgn n2 (dval m)) ∧ Len (sgn n1 (dval l) - sgn n2 (dval m)) ∧ Len (sgn n1 (dval l) * sgn n2 (dval m)) := by
  have a1 := dval_nonneg hl
  have a2 := dval_nonneg hm
  have b1 := dval_lt hl
  have b2 := dval_lt hm
  have c1 := pow_le30 h1
  have c2 := pow_le30 h2
  have hp12 : ((1073741824 ^ 12 : Nat) : Int) = (1073741824 : Int) ^ 12 := Int.natCast_pow _ _
  obtain ⟨P, hP⟩ : ∃ P : Nat, (1073741824 : Nat) ^ 12 = P := ⟨_, rfl⟩
  have hP13 : 2 * P ≤ 1073741824 ^ 13 := by rw [Nat.pow_succ, hP]; omega
  have hP24 : P * P = 1073741824 ^ 24 := by rw [← hP, ← Nat.pow_add]
  rw [hP] at hp12
  rw [← hp12] at c1 c2
  refine ⟨len_pow (n := 13) ?_ (by decide), len_pow (n := 13) ?_ (by decide), len_pow (n := 24) ?_ (by decide)⟩
  · unfold sgn; split <;> split <;> omega
  · unfold sgn; split <;> split <;> omega
  · rw [sgn_mul]
    have h3 : dval l * dval m < (P : Int) * P := by
      rcases Int.lt_or_le 0 (dval m) with h | h
      · have e1 : dval l * dval m < P * dval m := Int.mul_lt_mul_of_pos_right (by omega) h
        have e2 : (P : Int) * dval m ≤ P * P := Int.mul_le_mul_of_nonneg_left (by omega) (by omega)
        omega
      · have : dval m = 0 := by omega
        rw [this, Int.mul_zero]
        have : 0 < (P : Int) := by omega
        exact Int.mul_pos this this
    have h4 := Int.mul_nonneg a1 a2
    have h5 : (P : Int) * P = ((P * P : Nat) : Int) := by simp
    rw [hP24] at h5
    rw [h5] at h3
    unfold sgn
    generalize (1073741824 : Nat) ^ 24 = Q at *
    split <;> omega
end Go.Proofs.YtpaaanbcadlhiaaDoor
