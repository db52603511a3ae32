import Derived.Test.YtmkleegfbapakaaDList
namespace Go.Proofs.Ytmkleegfbapakaa
open Go.RowKit Go D28 BigFrame
set_option maxRecDepth 100000

set_option maxHeartbeats 800000 in
theorem desFits (J S N : Int) (b0 : Value) (r : List Bool) (ra : Option Addr) (rc : Nat) (a2 : Option Addr) (cap2 : Nat) (l : List Int) (w : World) (hrow : Bools w ra rc r) (h2 : Ints w a2 cap2 l)
    (hrl : (r.length : Int) = J) (hb0 : ∃ a n c, b0 = .slice a n c) :
    Calls Try.prog 50 #[.agg #[.int .i64 J, .int .i64 S, .int .i64 N, b0], .slice ra r.length rc, .slice a2 l.length cap2] w fun e w' => e = .returned (.bool (fitB J S r l)) ∧ Ext w w' := by
  obtain ⟨a0, n0, c0, rfl⟩ := hb0
  have hle2 := h2.le
  have hmx2 := h2.mx
  have hrle := hrow.le
  have hrmx := hrow.mx
  have HJ := Lib.hid hrl
  have hj1 : (r.length : Int) ≤ J := by omega
  have hj2 : J ≤ (r.length : Int) := by omega
  clear hrl
  have h2' := h2.ext (Ext.alloc w (.cells #[.int .i64 J, .int .i64 S, .int .i64 N, .slice a0 n0 c0] 24))
  have hrow' := hrow.ext (Ext.alloc w (.cells #[.int .i64 J, .int .i64 S, .int .i64 N, .slice a0 n0 c0] 24))
  go_enter Try.func50, Try.ntmps50
  go_wp2
  go_loop [7, 12] (fun last i => ∃ k : Nat, k ≤ l.length ∧ i = .int .i64 k ∧ (List.range k).all (fitAt J r l) = true ∧ last = .int .i64 (if 0 < k then l.getD (k - 1) 0 else -1)) (fun _ i => l.length - (intOf i).toNat)
  case atStart => exact ⟨0, Nat.zero_le _, rfl, rfl, rfl⟩
  case round =>
    obtain ⟨k, hk, rfl, hf, hlast⟩ := hrel
    have HF := Lib.hid hf
    clear hf
    by_cases hlt : k < l.length
    · obtain ⟨b, o, rfl⟩ := h2'.head hlt
      obtain ⟨x, hx, hc, hx1, hx2⟩ := Ints.get h2' hlt
      obtain ⟨y, hy, hl2, hyx⟩ : ∃ y : Int, (0 < k → l[k - 1]? = some y) ∧ (if 0 < k then l.getD (k - 1) 0 else -1) = y ∧ (y < x ↔ (0 < k → y < x) ∧ 0 ≤ x) := by
        by_cases hk0 : 0 < k
        · obtain ⟨y, hy, _, _⟩ := Ints.get h2' (i := k - 1) (by omega)
          have hfk : fitAt J r l (k - 1) = true := by
            have := HF.out
            rw [List.all_eq_true] at this
            exact this (k - 1) (by simp; omega)
          have e1 : l.getD (k - 1) 0 = y := by simp [List.getD, hy]
          have hy0 : 0 ≤ y := by
            simp only [fitAt, e1, Bool.and_eq_true, decide_eq_true_eq] at hfk
            exact hfk.1.1
          exact ⟨y, fun _ => hy, by simp only [hk0, if_true, e1], by simp only [hk0, true_implies]; omega⟩
        · exact ⟨-1, fun h => absurd h hk0, by simp [hk0], by simp only [hk0, false_implies, true_and]; omega⟩
      rw [hl2] at hlast
      subst hlast
      have HX := Lib.hid hx
      have HY := Lib.hid hy
      clear hx hy hl2
      by_cases c1 : x ≤ y
      · have d1 : decide (x ≤ y) = true := by simpa using c1
        have HR := Lib.hid (fitB_no (S := S) (by
          by_cases hz : 0 ≤ x ∧ x < J
          · obtain ⟨v, hv⟩ : ∃ v, r[x.toNat]? = some v := ⟨r[x.toNat]'(by omega), by simp⟩
            rw [fitAt_eq (b := r) (J := J) (v := v) HX.out HY.out (fun _ _ => hv)]
            rw [decide_eq_false (by omega)]; rfl
          · rw [fitAt_eq (b := r) (J := J) (v := true) HX.out HY.out (fun h1 h2 => absurd ⟨h1, h2⟩ hz)]; simp) hlt : fitB J S r l = false)
        clear hyx
        go_wp2
        go_ret
        exact ⟨ret_bool (by rw [HR.out]), (by repeat (first | with_reducible exact Ext.refl _ | with_reducible assumption | with_reducible refine Ext.drewN ?_ _ | with_reducible refine Ext.drew ?_ | with_reducible refine Ext.alloc' ?_ _ | with_reducible refine Ext.set ?_ (by dsimp only; omega) _))⟩
      have d1 : decide (x ≤ y) = false := by simpa using c1
      have hx0 : 0 ≤ x := by omega
      have hyx2 : 0 < k → y < x := by omega
      clear hyx
      by_cases c2 : J ≤ x
      · have d2 : decide (J ≤ x) = true := by simpa using c2
        have HR := Lib.hid (fitB_no (S := S) (by rw [fitAt_eq (b := r) (J := J) (v := true) HX.out HY.out (fun _ h => absurd c2 (by omega))]; simp) hlt : fitB J S r l = false)
        clear hyx2
        go_wp2
        go_ret
        exact ⟨ret_bool (by rw [HR.out]), (by repeat (first | with_reducible exact Ext.refl _ | with_reducible assumption | with_reducible refine Ext.drewN ?_ _ | with_reducible refine Ext.drew ?_ | with_reducible refine Ext.alloc' ?_ _ | with_reducible refine Ext.set ?_ (by dsimp only; omega) _))⟩
      have d2 : decide (J ≤ x) = false := by simpa using c2
      obtain ⟨rb, ro, rfl⟩ := hrow.head (i := x.toNat) (by omega)
      obtain ⟨v, hv, hvc⟩ := Bools.get hrow' (i := x.toNat) (by omega)
      have HV := Lib.hid (fitAt_eq (b := r) (J := J) (v := v) HX.out HY.out (fun _ _ => hv))
      have HY2 := Lib.hid hyx2
      clear hv hyx2
      cases v with
      | true =>
        have HR := Lib.hid (fitB_no (S := S) (by rw [HV.out]; simp) hlt : fitB J S r l = false)
        go_wp2
        go_ret
        exact ⟨ret_bool (by rw [HR.out]), (by repeat (first | with_reducible exact Ext.refl _ | with_reducible assumption | with_reducible refine Ext.drewN ?_ _ | with_reducible refine Ext.drew ?_ | with_reducible refine Ext.alloc' ?_ _ | with_reducible refine Ext.set ?_ (by dsimp only; omega) _))⟩
      | false =>
        have HR := Lib.hid (by rw [HV.out]; have := HY2.out; simp; omega : fitAt J r l k = true)
        go_wp2
        go_round
        case rel => exact ⟨k + 1, by omega, by go_num, fit_take HF.out HR.out hlt, by have := HX.out; simp [this]⟩
        case measure => simp [intOf]; omega
    · obtain rfl : k = l.length := by omega
      generalize (if 0 < l.length then l.getD (l.length - 1) 0 else (-1 : Int)) = z at hlast
      subst hlast
      by_cases hS : (l.length : Int) = S
      · have hS' : ((l.length : Int) == S) = true := by simpa using hS
        have HS := Lib.hid hS
        clear hS
        go_wp2
        go_ret
        exact ⟨ret_bool (by have := HF.out; simp [fitB, this, HS.out]), (by repeat (first | with_reducible exact Ext.refl _ | with_reducible assumption | with_reducible refine Ext.drewN ?_ _ | with_reducible refine Ext.drew ?_ | with_reducible refine Ext.alloc' ?_ _ | with_reducible refine Ext.set ?_ (by dsimp only; omega) _))⟩
      · have hS' : ((l.length : Int) == S) = false := by simpa using hS
        go_wp2
        go_ret
        exact ⟨ret_bool (by simp [fitB, hS]), (by repeat (first | with_reducible exact Ext.refl _ | with_reducible assumption | with_reducible refine Ext.drewN ?_ _ | with_reducible refine Ext.drew ?_ | with_reducible refine Ext.alloc' ?_ _ | with_reducible refine Ext.set ?_ (by dsimp only; omega) _))⟩
end Go.Proofs.Ytmkleegfbapakaa
