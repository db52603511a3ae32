import Derived.Test.YtmkleegfbapakaaDHas
import Derived.Test.YtmkleegfbapakaaDRight
namespace Go.Proofs.Ytmkleegfbapakaa
open Go.RowKit Go D28 BigFrame
set_option maxRecDepth 100000

theorem fit_take {p : Nat → Bool} {n k : Nat} (h : (List.range k).all p = true) (hk : p k = true) (_h : k < n) : (List.range (k + 1)).all p = true := by
  rw [List.range_succ, List.all_append, h]; simp [hk]
theorem fit_no {p : Nat → Bool} {n k : Nat} (h : p k = false) (hk : k < n) : (List.range n).all p = false := by
  rw [List.all_eq_false]; exact ⟨k, by simpa using hk, by simp [h]⟩
theorem fitB_no {J S : Int} {b : List Bool} {l : List Int} {k : Nat} (h : fitAt J b l k = false) (hk : k < l.length) : fitB J S b l = false := by
  simp [fitB, fit_no h hk]
theorem fitAt_eq {J : Int} {b : List Bool} {l : List Int} {k : Nat} {x y : Int} {v : Bool} (hx : l[k]? = some x) (hy : 0 < k → l[k - 1]? = some y) (hv : 0 ≤ x → x < J → b[x.toNat]? = some v) :
    fitAt J b l k = (decide (0 ≤ x ∧ x < J ∧ (0 < k → y < x)) && !v) := by
  have e1 : l.getD k 0 = x := by simp [List.getD, hx]
  simp only [fitAt, e1]
  by_cases h0 : 0 ≤ x ∧ x < J
  · have e3 : b.getD x.toNat true = v := by simp [List.getD, hv h0.1 h0.2]
    rw [e3]
    congr 1
    by_cases hk : 0 < k
    · have e2 : l.getD (k - 1) 0 = y := by simp [List.getD, hy hk]
      rw [e2]
    · have : k = 0 := by omega
      subst this; simp
  · have : ¬ (0 ≤ x ∧ x < J ∧ (0 < k → l.getD (k - 1) 0 < x)) := fun h => h0 ⟨h.1, h.2.1⟩
    have h2 : ¬ (0 ≤ x ∧ x < J ∧ (0 < k → y < x)) := fun h => h0 ⟨h.1, h.2.1⟩
    rw [decide_eq_false this, decide_eq_false h2]; rfl

set_option maxHeartbeats 800000 in
theorem refList (J S N : Int) (a : Option Addr) (cap : Nat) (bad : List (List Bool)) (e : Nat) (a2 : Option Addr) (cap2 : Nat) (l : List Int) (w : World) (h : BRows w a cap bad) (h2 : Ints w a2 cap2 l)
    (he : e < bad.length) (hJ : ∀ r ∈ bad, (r.length : Int) = J) :
    Calls Try.prog 52 #[.agg #[.int .i64 J, .int .i64 S, .int .i64 N, .slice a bad.length cap], .int .i64 e, .slice a2 l.length cap2] w fun r w' => r = .returned (.bool (fitB J S (bad.getD e []) l)) ∧ Ext w w' := by
  have hle := h.le
  have hmx := h.mx
  have hle2 := h2.le
  have hmx2 := h2.mx
  obtain ⟨bb, bo, rfl⟩ := h.head he
  obtain ⟨r, ra, rc, hr, hcell, hrow⟩ := BRows.get (h.ext (Ext.alloc w (.cells #[.int .i64 J, .int .i64 S, .int .i64 N, .slice (some ⟨bb, bo, none⟩) bad.length cap] 24))) he
  have hrl : (r.length : Int) = J := hJ r (List.mem_of_getElem? hr)
  have er : bad.getD e [] = r := by simp [List.getD, hr]
  rw [er]
  clear hr er hJ
  have hrle := hrow.le
  have hrmx := hrow.mx
  have h2' := h2.ext (Ext.alloc w (.cells #[.int .i64 J, .int .i64 S, .int .i64 N, .slice (some ⟨bb, bo, none⟩) bad.length cap] 24))
  by_cases hS : (l.length : Int) = S
  · have HS := Lib.hid hS
    have hS' : ((l.length : Int) != S) = false := by simpa using hS
    have HJ := Lib.hid hrl
    have hj1 : (r.length : Int) ≤ J := by omega
    have hj2 : J ≤ (r.length : Int) := by omega
    clear hS hrl
    go_enter Try.func52, Try.ntmps52
    go_wp2
    go_loopw [7] (fun i wr => ∃ k : Nat, k ≤ l.length ∧ i = .int .i64 k ∧ (List.range k).all (fitAt J r l) = true ∧ ∃ n, wr = (w.alloc (.cells #[.int .i64 J, .int .i64 S, .int .i64 N, .slice (some ⟨bb, bo, none⟩) bad.length cap] 24)).drewN n) (fun i _ => l.length - (intOf i).toNat)
    case atStart => exact ⟨0, Nat.zero_le _, rfl, rfl, 0, rfl⟩
    case round =>
      obtain ⟨k, hk, rfl, hf, n, rfl⟩ := hrel
      have HF := Lib.hid hf
      clear hf
      by_cases hlt : k < l.length
      · obtain ⟨b, o, rfl⟩ := h2'.head hlt
        obtain ⟨x, hx, hc, hx1, hx2⟩ := Ints.get h2' hlt
        have hint0 : (0 : Int) ≤ (k : Int) := by omega
        have hint : (k : Int) < (l.length : Int) := by omega
        obtain ⟨y, hy, hyc⟩ : ∃ y : Int, (0 < k → l[k - 1]? = some y) ∧ (0 < k → (w.alloc (.cells #[.int .i64 J, .int .i64 S, .int .i64 N, .slice (some ⟨bb, bo, none⟩) bad.length cap] 24)).cell? ⟨b, o + (k - 1), none⟩ = some (.int .i64 y)) := by
          by_cases hk0 : 0 < k
          · obtain ⟨y, hy, hyc, _⟩ := Ints.get h2' (i := k - 1) (by omega)
            exact ⟨y, fun _ => hy, fun _ => hyc⟩
          · exact ⟨0, fun h => absurd h hk0, fun h => absurd h hk0⟩
        have HX := Lib.hid hx
        have HY := Lib.hid hy
        clear hx hy
        by_cases c1 : x < 0
        · have d1 : decide (x < 0) = true := by simpa using c1
          have HR := Lib.hid (fitB_no (S := S) (by rw [fitAt_eq (b := r) (J := J) (v := true) HX.out HY.out (fun h => absurd c1 (by omega))]; simp) hlt : fitB J S r l = false)
          go_wp2
          go_big_quiet (fail)
          go_wp2
          go_ret
          exact ⟨ret_bool (by rw [HR.out]), (by repeat (first | with_reducible exact Ext.refl _ | with_reducible assumption | with_reducible refine Ext.drewN ?_ _ | with_reducible refine Ext.drew ?_ | with_reducible refine Ext.alloc' ?_ _ | with_reducible refine Ext.set ?_ (by dsimp only; omega) _))⟩
        have d1 : decide (x < 0) = false := by simpa using c1
        by_cases c2 : J ≤ x
        · have d2 : decide (J ≤ x) = true := by simpa using c2
          have HR := Lib.hid (fitB_no (S := S) (by rw [fitAt_eq (b := r) (J := J) (v := true) HX.out HY.out (fun _ h => absurd c2 (by omega))]; simp) hlt : fitB J S r l = false)
          go_wp2
          go_big_quiet (fail)
          go_wp2
          go_ret
          exact ⟨ret_bool (by rw [HR.out]), (by repeat (first | with_reducible exact Ext.refl _ | with_reducible assumption | with_reducible refine Ext.drewN ?_ _ | with_reducible refine Ext.drew ?_ | with_reducible refine Ext.alloc' ?_ _ | with_reducible refine Ext.set ?_ (by dsimp only; omega) _))⟩
        have d2 : decide (J ≤ x) = false := by simpa using c2
        obtain ⟨rb, ro, rfl⟩ := hrow.head (i := x.toNat) (by omega)
        obtain ⟨v, hv, hvc⟩ := Bools.get hrow (i := x.toNat) (by omega)
        have HV := Lib.hid (fitAt_eq (b := r) (J := J) (v := v) HX.out HY.out (fun _ _ => hv))
        clear hv
        by_cases c3 : 0 < k
        · have hyc' := hyc c3
          have d3 : decide (0 < k) = true := by simpa using c3
          by_cases c4 : x ≤ y
          · have d4 : decide (x ≤ y) = true := by simpa using c4
            have HR := Lib.hid (fitB_no (S := S) (by rw [HV.out]; simp; omega) hlt : fitB J S r l = false)
            go_wp2
            go_big_quiet (fail)
            go_wp2
            go_ret
            exact ⟨ret_bool (by rw [HR.out]), (by repeat (first | with_reducible exact Ext.refl _ | with_reducible assumption | with_reducible refine Ext.drewN ?_ _ | with_reducible refine Ext.drew ?_ | with_reducible refine Ext.alloc' ?_ _ | with_reducible refine Ext.set ?_ (by dsimp only; omega) _))⟩
          · have d4 : decide (x ≤ y) = false := by simpa using c4
            cases v with
            | true =>
              have HR := Lib.hid (fitB_no (S := S) (by rw [HV.out]; simp) hlt : fitB J S r l = false)
              go_wp2
              go_big_quiet (fail)
              go_wp2
              go_ret
              exact ⟨ret_bool (by rw [HR.out]), (by repeat (first | with_reducible exact Ext.refl _ | with_reducible assumption | with_reducible refine Ext.drewN ?_ _ | with_reducible refine Ext.drew ?_ | with_reducible refine Ext.alloc' ?_ _ | with_reducible refine Ext.set ?_ (by dsimp only; omega) _))⟩
            | false =>
              have HR := Lib.hid (by rw [HV.out]; simp; omega : fitAt J r l k = true)
              go_wp2
              go_big_quiet (fail)
              go_wp2
              go_roundw
              case rel => exact ⟨k + 1, by omega, by go_num, fit_take HF.out HR.out hlt, _, rfl⟩
              case measure => simp [intOf]; omega
        · have d3 : decide (0 < k) = false := by simpa using c3
          cases v with
          | true =>
            have HR := Lib.hid (fitB_no (S := S) (by rw [HV.out]; simp) hlt : fitB J S r l = false)
            go_wp2
            go_big_quiet (fail)
            go_wp2
            go_ret
            exact ⟨ret_bool (by rw [HR.out]), (by repeat (first | with_reducible exact Ext.refl _ | with_reducible assumption | with_reducible refine Ext.drewN ?_ _ | with_reducible refine Ext.drew ?_ | with_reducible refine Ext.alloc' ?_ _ | with_reducible refine Ext.set ?_ (by dsimp only; omega) _))⟩
          | false =>
            have HR := Lib.hid (by rw [HV.out]; simp; omega : fitAt J r l k = true)
            go_wp2
            go_big_quiet (fail)
            go_wp2
            go_roundw
            case rel => exact ⟨k + 1, by omega, by go_num, fit_take HF.out HR.out hlt, _, rfl⟩
            case measure => simp [intOf]; omega
      · go_wp2
        go_ret
        refine ⟨ret_bool ?_, (by repeat (first | with_reducible exact Ext.refl _ | with_reducible assumption | with_reducible refine Ext.drewN ?_ _ | with_reducible refine Ext.drew ?_ | with_reducible refine Ext.alloc' ?_ _ | with_reducible refine Ext.set ?_ (by dsimp only; omega) _))⟩
        have := HF.out
        rw [show k = l.length from by omega] at this
        simp [fitB, this, HS.out]
  · go_enter Try.func52, Try.ntmps52
    have hS' : ((l.length : Int) != S) = true := by simpa using hS
    go_wp2
    go_ret
    exact ⟨ret_bool (by simp [fitB, hS]), (by repeat (first | with_reducible exact Ext.refl _ | with_reducible assumption | with_reducible refine Ext.drewN ?_ _ | with_reducible refine Ext.drew ?_ | with_reducible refine Ext.alloc' ?_ _ | with_reducible refine Ext.set ?_ (by dsimp only; omega) _))⟩
end Go.Proofs.Ytmkleegfbapakaa
