import Derived.Test.YtmkleegfbapakaaBase
import Derived.Test.YtmkleegfbapakaaDSpec
namespace Go.Proofs.Ytmkleegfbapakaa
open Go.RowKit Go D28
set_option maxRecDepth 100000

theorem right_take {J : Int} {bad : List (List Bool)} {k : Nat} {r : List Bool} (h : ∀ x ∈ bad.take k, (x.length : Int) = J) (hk : bad[k]? = some r) (hr : (r.length : Int) = J) : ∀ x ∈ bad.take (k + 1), (x.length : Int) = J := by
  intro x hx
  obtain ⟨hlt, he⟩ := List.getElem?_eq_some_iff.1 hk
  rw [List.take_succ_eq_append_getElem hlt, List.mem_append] at hx
  rcases hx with hx | hx
  · exact h x hx
  · simp at hx; subst hx; rw [he]; exact hr
theorem right_yes {J S N : Int} {bad : List (List Bool)} (hc : 1 ≤ J ∧ J ≤ 256 ∧ 1 ≤ S ∧ S ≤ J ∧ 0 ≤ N ∧ N ≤ S ∧ bad.length ≤ 4096) (h : ∀ x ∈ bad, (x.length : Int) = J) : rightB J S N bad = true := by
  simp only [rightB, Bool.and_eq_true, decide_eq_true_eq, List.all_eq_true]
  exact ⟨hc, h⟩
theorem right_no {J S N : Int} {bad : List (List Bool)} {k : Nat} {r : List Bool} (hk : bad[k]? = some r) (hr : ¬ (r.length : Int) = J) : rightB J S N bad = false := by
  simp only [rightB, Bool.and_eq_false_iff, List.all_eq_false, decide_eq_true_eq]
  exact .inr ⟨r, List.mem_of_getElem? hk, hr⟩

theorem refRight (J S N : Int) (a : Option Addr) (cap : Nat) (bad : List (List Bool)) (w : World) (h : BRows w a cap bad) :
    Calls Try.prog 51 #[.agg #[.int .i64 J, .int .i64 S, .int .i64 N, .slice a bad.length cap]] w fun e w' => e = .returned (.bool (rightB J S N bad)) ∧ Ext w w' := by
  have hle := h.le
  have hmx := h.mx
  by_cases hc : 1 ≤ J ∧ J ≤ 256 ∧ 1 ≤ S ∧ S ≤ J ∧ 0 ≤ N ∧ N ≤ S ∧ bad.length ≤ 4096
  · have HC := Lib.hid hc
    obtain ⟨c1, c2, c3, c4, c5, c6, c7⟩ := hc
    go_enter Try.func51, Try.ntmps51
    go_wp2
    go_loopw [3] (fun i wr => ∃ k : Nat, k ≤ bad.length ∧ i = .int .i64 k ∧ (∀ r ∈ bad.take k, (r.length : Int) = J) ∧ ∃ n, wr = (w.alloc (.cells #[.int .i64 J, .int .i64 S, .int .i64 N, .slice a bad.length cap] 24)).drewN n) (fun i _ => bad.length - (intOf i).toNat)
    case atStart => exact ⟨0, Nat.zero_le _, rfl, by simp, 0, rfl⟩
    case round =>
      obtain ⟨k, hk, rfl, hr, n, rfl⟩ := hrel
      have HR := Lib.hid hr
      clear hr
      by_cases hlt : k < bad.length
      · obtain ⟨b, o, rfl⟩ := h.head hlt
        obtain ⟨r, a', c', hx, hcell, hrow⟩ := BRows.get (h.ext (Ext.alloc w (.cells #[.int .i64 J, .int .i64 S, .int .i64 N, .slice (some ⟨b, o, none⟩) bad.length cap] 24))) hlt
        have HX := Lib.hid hx
        clear hx
        go_wp2
        go_quiet (fail)
        go_wp2
        · have ht : ((r.length : Int) != J) = true := by assumption
          go_ret
          exact ⟨ret_bool (right_no HX.out (by simpa using ht)).symm, (by repeat (first | with_reducible exact Ext.refl _ | with_reducible assumption | with_reducible refine Ext.drewN ?_ _ | with_reducible refine Ext.drew ?_ | with_reducible refine Ext.alloc' ?_ _ | with_reducible refine Ext.set ?_ (by dsimp only; omega) _))⟩
        · have ht : ((r.length : Int) != J) = false := by assumption
          go_roundw
          case rel => exact ⟨k + 1, by omega, by go_num, right_take HR.out HX.out (by simpa using ht), _, rfl⟩
          case measure => simp [intOf]; omega
      · go_wp2
        go_ret
        exact ⟨ret_bool (right_yes HC.out (by have := HR.out; rwa [List.take_of_length_le (by omega)] at this)).symm, (by repeat (first | with_reducible exact Ext.refl _ | with_reducible assumption | with_reducible refine Ext.drewN ?_ _ | with_reducible refine Ext.drew ?_ | with_reducible refine Ext.alloc' ?_ _ | with_reducible refine Ext.set ?_ (by dsimp only; omega) _))⟩
  · go_enter Try.func51, Try.ntmps51
    go_wp2
    all_goals
      go_ret
      exact ⟨ret_bool (by simp [rightB, hc]), Ext.alloc _ _⟩
#print axioms refRight
end Go.Proofs.Ytmkleegfbapakaa
