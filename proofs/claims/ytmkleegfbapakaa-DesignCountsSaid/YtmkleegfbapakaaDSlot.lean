import Derived.Test.YtmkleegfbapakaaDHas
import Derived.Test.YtmkleegfbapakaaDLow
namespace Go.Proofs.Ytmkleegfbapakaa
open Go.RowKit Go D28 BigFrame
set_option maxRecDepth 100000

/-- How many of the first i entries. -/
def cntTo (ps : List (List Int)) (j : Int) (m k i : Nat) : Nat := (List.range i).countP fun i => decide (i % m = k) && decide (j ∈ ps.getD i [])
theorem cntTo_eq (ps : List (List Int)) (j : Int) (m k : Nat) : dCnt ps j m k = cntTo ps j m k ps.length := rfl
theorem cntTo_le (ps : List (List Int)) (j : Int) (m k i : Nat) : cntTo ps j m k i ≤ i := by
  have := List.countP_le_length (p := fun i => decide (i % m = k) && decide (j ∈ ps.getD i [])) (l := List.range i)
  simpa [cntTo] using this
theorem cntTo_succ (ps : List (List Int)) (j : Int) (m k i : Nat) : cntTo ps j m k (i + 1) = cntTo ps j m k i + if i % m = k ∧ j ∈ ps.getD i [] then 1 else 0 := by
  simp only [cntTo, List.range_succ, List.countP_append, List.countP_singleton, Bool.and_eq_true, decide_eq_true_eq]
theorem cntTo_far (ps : List (List Int)) (j : Int) (m k : Nat) : ∀ i, ps.length ≤ i → cntTo ps j m k i = dCnt ps j m k := by
  intro i hi
  induction i with
  | zero => rw [cntTo_eq]; simp at hi; rw [hi]; rfl
  | succ i ih =>
    by_cases h : ps.length ≤ i
    · have hz : ¬ (i % m = k ∧ j ∈ ps.getD i []) := by
        rintro ⟨_, hm⟩
        simp [List.getD, List.getElem?_eq_none h] at hm
      rw [cntTo_succ, ih h, if_neg hz]; rfl
    · rw [cntTo_eq, show ps.length = i + 1 by omega]
theorem cntTo_start (ps : List (List Int)) (j : Int) (m k : Nat) (hk : k < m) : ∀ i, i ≤ k → cntTo ps j m k i = 0 := by
  intro i
  induction i with
  | zero => intro _; rfl
  | succ i ih =>
    intro h
    have hz : ¬ (i % m = k ∧ j ∈ ps.getD i []) := by
      rintro ⟨h1, _⟩
      rw [Nat.mod_eq_of_lt (by omega)] at h1
      omega
    rw [cntTo_succ, ih (by omega), if_neg hz]
theorem cntTo_step (ps : List (List Int)) (j : Int) (m k i : Nat) (hi : i % m = k) (hm : 0 < m) : ∀ d, d < m → cntTo ps j m k (i + 1 + d) = cntTo ps j m k i + if j ∈ ps.getD i [] then 1 else 0 := by
  intro d
  induction d with
  | zero => intro _; rw [Nat.add_zero, cntTo_succ]; simp [hi]
  | succ d ih =>
    intro hd
    have hz : ¬ ((i + 1 + d) % m = k ∧ j ∈ ps.getD (i + 1 + d) []) := by
      rintro ⟨h1, _⟩
      have e := Nat.div_add_mod i m
      have : (i + 1 + d) % m = (k + 1 + d) % m := by rw [show i + 1 + d = (k + 1 + d) + m * (i / m) by omega, Nat.add_mul_mod_self_left]
      have hkm : k < m := by rw [← hi]; exact Nat.mod_lt _ hm
      rw [this] at h1
      by_cases hw : k + 1 + d < m
      · rw [Nat.mod_eq_of_lt hw] at h1; omega
      · rw [show k + 1 + d = (k + 1 + d - m) + m by omega, Nat.add_mod_right, Nat.mod_eq_of_lt (by omega)] at h1; omega
    rw [show i + 1 + (d + 1) = (i + 1 + d) + 1 by omega, cntTo_succ, ih (by omega), if_neg hz]
    rfl
theorem cntTo_jump (ps : List (List Int)) (j : Int) (m k i : Nat) (hi : i % m = k) (hm : 0 < m) : cntTo ps j m k (i + m) = cntTo ps j m k i + if j ∈ ps.getD i [] then 1 else 0 := by
  have := cntTo_step ps j m k i hi hm (m - 1) (by omega)
  rwa [show i + 1 + (m - 1) = i + m by omega] at this

def lead (ps : List (List Int)) (j : Int) (m k : Nat) : List Int := (List.range k).map fun k => (dCnt ps j m k : Int)
theorem lead_succ (ps : List (List Int)) (j : Int) (m k : Nat) : lead ps j m (k + 1) = lead ps j m k ++ [(dCnt ps j m k : Int)] := by simp [lead, List.range_succ]
theorem lo_lead (ps : List (List Int)) (j : Int) (m k : Nat) (x : Int) : dLo x (lead ps j m (k + 1)) = if (dCnt ps j m k : Int) < dLo x (lead ps j m k) then (dCnt ps j m k : Int) else dLo x (lead ps j m k) := by
  rw [lead_succ, dLo, List.foldl_append]; simp only [List.foldl_cons, List.foldl_nil]; show min (dLo x (lead ps j m k)) _ = _; omega
theorem hi_lead (ps : List (List Int)) (j : Int) (m k : Nat) (x : Int) : dHi x (lead ps j m (k + 1)) = if dHi x (lead ps j m k) < (dCnt ps j m k : Int) then (dCnt ps j m k : Int) else dHi x (lead ps j m k) := by
  rw [lead_succ, dHi, List.foldl_append]; simp only [List.foldl_cons, List.foldl_nil]; show max (dHi x (lead ps j m k)) _ = _; omega
theorem dCnt_le (ps : List (List Int)) (j : Int) (m k : Nat) : dCnt ps j m k ≤ ps.length := cntTo_le ps j m k ps.length
theorem lo_lead_bd (ps : List (List Int)) (j : Int) (m k : Nat) : 0 ≤ dLo ps.length (lead ps j m k) ∧ dLo ps.length (lead ps j m k) ≤ ps.length := by
  induction k with
  | zero => simp [lead, dLo]
  | succ k ih => rw [lo_lead]; have := dCnt_le ps j m k; split <;> omega
theorem hi_lead_bd (ps : List (List Int)) (j : Int) (m k : Nat) : 0 ≤ dHi 0 (lead ps j m k) ∧ dHi 0 (lead ps j m k) ≤ ps.length := by
  induction k with
  | zero => simp [lead, dHi]
  | succ k ih => rw [hi_lead]; have := dCnt_le ps j m k; split <;> omega

set_option maxHeartbeats 800000 in
theorem refSlot (a : Option Addr) (cap : Nat) (ps : List (List Int)) (x : Int) (m : Nat) (w : World) (h : Rows w a cap ps) (hm : 1 ≤ m) (hm2 : m ≤ 16) (hn : ps.length ≤ 1000000) :
    Calls Try.prog 48 #[.slice a ps.length cap, .int .i64 x, .int .i64 m] w fun e w' => e = .returned (.int .i64 (dSlot ps x m)) ∧ w = w' := by
  have hle := h.le
  have hmx := h.mx
  go_enter Try.func48, Try.ntmps48
  go_wp2
  go_loop [7, 8, 9] (fun least most i => ∃ k : Nat, k ≤ m ∧ i = .int .i64 k ∧ least = .int .i64 (dLo ps.length (lead ps x m k)) ∧ most = .int .i64 (dHi 0 (lead ps x m k))) (fun _ _ i => m - (intOf i).toNat)
  case atStart => exact ⟨0, Nat.zero_le _, rfl, rfl, rfl⟩
  case round =>
    obtain ⟨k, hk, rfl, rfl, rfl⟩ := hrel
    have bl := lo_lead_bd ps x m k
    have bh := hi_lead_bd ps x m k
    obtain ⟨bl1, bl2⟩ := bl
    obtain ⟨bh1, bh2⟩ := bh
    by_cases hlt : k < m
    · have HL := Lib.hid (lo_lead ps x m k ps.length)
      have HH := Lib.hid (hi_lead ps x m k 0)
      generalize dLo ps.length (lead ps x m k) = L at *
      generalize dHi 0 (lead ps x m k) = H at *
      have hcl := dCnt_le ps x m k
      go_wp2
      go_loop [10, 11] (fun n i => ∃ q : Nat, q ≤ ps.length + m ∧ q % m = k ∧ i = .int .i64 q ∧ n = .int .i64 (cntTo ps x m k q)) (fun _ i => ps.length - (intOf i).toNat)
      case atStart => exact ⟨k, by omega, Nat.mod_eq_of_lt hlt, rfl, by rw [cntTo_start ps x m k hlt k (Nat.le_refl _)]; rfl⟩
      case round =>
        obtain ⟨q, hq, hqm, rfl, rfl⟩ := hrel
        have HQ := Lib.hid hqm
        have cl := cntTo_le ps x m k q
        clear hqm
        by_cases hqn : q < ps.length
        · obtain ⟨b, o, rfl⟩ := h.head hqn
          obtain ⟨r, a', c', hy, hc, hrow⟩ := Rows.get h hqn
          have HJ := Lib.hid (by have := cntTo_jump ps x m k q HQ.out (by omega); rwa [show ps.getD q [] = r by simp [List.getD, hy]] at this : cntTo ps x m k (q + m) = cntTo ps x m k q + if x ∈ r then 1 else 0)
          clear hy
          by_cases hmem : x ∈ r
          · go_wp2_with (go_at_call 55; refine (refHas _ _ _ _ _ hrow).mono ?_; rintro e w' ⟨rfl, rfl⟩)
            go_round
            case rel => exact ⟨q + m, by omega, by rw [Nat.add_mod_right]; exact HQ.out, by go_num, by rw [HJ.out, if_pos hmem]; go_num⟩
            case measure => simp [intOf]; omega
          · go_wp2_with (go_at_call 55; refine (refHas _ _ _ _ _ hrow).mono ?_; rintro e w' ⟨rfl, rfl⟩)
            go_round
            case rel => exact ⟨q + m, by omega, by rw [Nat.add_mod_right]; exact HQ.out, by go_num, by rw [HJ.out, if_neg hmem]; rfl⟩
            case measure => simp [intOf]; omega
        · have HF := Lib.hid (cntTo_far ps x m k q (by omega))
          generalize cntTo ps x m k q = c at *
          go_wp2
          all_goals
            go_round
            case rel => exact ⟨k + 1, by omega, by go_num, by rw [HL.out, ← HF.out], by rw [HH.out, ← HF.out]⟩
            case measure => simp [intOf]; omega
    · obtain rfl : k = m := by omega
      go_wp2
      go_ret
      exact ⟨rfl, rfl⟩
end Go.Proofs.Ytmkleegfbapakaa
