import Derived.Test.YtnpeakahiedeoaaGreatDoorPStr
namespace Go.Proofs.YtnpeakahiedeoaaGreatDoor
open Go.RowKit Go BigFrame Go.Shelf
set_option maxRecDepth 100000
set_option linter.unusedSimpArgs false

/-! Decimal texts. -/
/-- The first n decimal digits, the least significant one first. -/
def dgs : Nat → Nat → List UInt8
  | 0, _ => []
  | n + 1, U => UInt8.ofNat (48 + U % 10) :: dgs n (U / 10)
def decL (U : Nat) : List UInt8 := if h : U = 0 then [] else UInt8.ofNat (48 + U % 10) :: decL (U / 10)
termination_by U
decreasing_by omega
theorem decL_zero : decL 0 = [] := by unfold decL; simp
theorem decL_pos {U : Nat} (h : 0 < U) : decL U = UInt8.ofNat (48 + U % 10) :: decL (U / 10) := by rw [decL]; simp [show U ≠ 0 by omega]
def txtL (z : Int) : List UInt8 := if z = 0 then [48] else if z < 0 then 45 :: (decL z.natAbs).reverse else (decL z.natAbs).reverse
theorem dgs_add : ∀ n m U, dgs (n + m) U = dgs n U ++ dgs m (U / 10 ^ n)
  | 0, m, U => by simp [dgs]
  | n + 1, m, U => by
    rw [show n + 1 + m = n + m + 1 by omega, dgs, dgs, dgs_add n m, List.cons_append, Nat.div_div_eq_div_mul, Nat.pow_succ, Nat.mul_comm 10]
theorem dgs_mod : ∀ n k U, n ≤ k → dgs n (U % 10 ^ k) = dgs n U
  | 0, _, _, _ => rfl
  | n + 1, 0, _, h => by omega
  | n + 1, k + 1, U, h => by
    rw [dgs, dgs, Nat.pow_succ, Nat.mul_comm (10 ^ k) 10, Nat.mod_mul_right_div_self, dgs_mod n k _ (by omega), Nat.mod_mul_right_mod]
theorem dgs_zero : ∀ n, dgs n 0 = List.replicate n 48
  | 0 => rfl
  | n + 1 => by rw [dgs, dgs_zero n]; rfl
theorem dgs_full : ∀ n U, U < 10 ^ n → (decL U).length ≤ n ∧ dgs n U = decL U ++ List.replicate (n - (decL U).length) 48
  | 0, U, h => by
    obtain rfl : U = 0 := by simpa using h
    rw [decL_zero]; exact ⟨Nat.le_refl _, rfl⟩
  | n + 1, U, h => by
    by_cases hU : U = 0
    · subst hU; rw [decL_zero, dgs_zero]; exact ⟨by simp, by simp⟩
    · obtain ⟨h1, h2⟩ := dgs_full n (U / 10) (by rw [Nat.pow_succ] at h; omega)
      rw [decL_pos (by omega), dgs, h2]
      refine ⟨by simp; omega, ?_⟩
      simp only [List.length_cons, List.cons_append, Nat.add_sub_add_right]
theorem decL_last : ∀ U, 0 < U → ∃ (l : List UInt8) (d : UInt8), decL U = l ++ [d] ∧ d ≠ 48 := fun U => by
  induction U using Nat.strongRecOn with
  | _ U ih =>
    intro hU
    by_cases h : U / 10 = 0
    · refine ⟨[], UInt8.ofNat (48 + U % 10), by rw [decL_pos hU, h, decL_zero]; rfl, fun e => ?_⟩
      have h1 := congrArg UInt8.toNat e
      rw [UInt8.toNat_ofNat'] at h1
      simp at h1
      omega
    · obtain ⟨l, d, e, hd⟩ := ih (U / 10) (by omega) (by omega)
      exact ⟨_ :: l, d, by rw [decL_pos hU, e]; rfl, hd⟩
theorem dropRep (l : List UInt8) (h : ∀ b, l.head? = some b → b ≠ 48) : ∀ n, (List.replicate n (48 : UInt8) ++ l).dropWhile (· == 48) = l
  | 0 => by
    cases l with
    | nil => rfl
    | cons b l =>
      have := h b rfl
      simp [List.dropWhile, this]
  | n + 1 => by
    rw [List.replicate_succ, List.cons_append, List.dropWhile_cons, if_pos (by rfl)]
    exact dropRep l h n
theorem trim_text {n U : Nat} (h : U < 10 ^ n) : Lib.trimLeftB (dgs n U).reverse 48 = (decL U).reverse := by
  rw [(dgs_full n U h).2, List.reverse_append, List.reverse_replicate]
  unfold Lib.trimLeftB
  apply dropRep
  intro b hb
  by_cases hU : U = 0
  · subst hU; rw [decL_zero] at hb; cases hb
  · obtain ⟨l, d, e, hd⟩ := decL_last U (by omega)
    rw [e] at hb
    simp at hb
    rw [← hb]; exact hd
theorem pow30 (n : Nat) : (1073741824 : Nat) ^ n = 2 ^ (30 * n) := by rw [Nat.pow_mul]
theorem rounds_bd {r U : Nat} (h1 : 10 ^ (9 * r) ≤ U) (h2 : U < 1073741824 ^ 2048) : r ≤ 2118 := by
  have h3 : (2 : Nat) ^ (29 * r) ≤ 10 ^ (9 * r) := by
    rw [Nat.pow_mul, Nat.pow_mul]
    exact Nat.pow_le_pow_left (by decide) r
  have h4 := pow30 2048
  rw [h4] at h2
  have h5 : (2 : Nat) ^ (29 * r) < 2 ^ (30 * 2048) := Nat.lt_of_le_of_lt (Nat.le_trans h3 h1) h2
  have := (Nat.pow_lt_pow_iff_right (by decide)).1 h5
  omega
theorem txt_pos {z : Int} (h : z ≠ 0) : txtL z = if z < 0 then 45 :: (decL z.natAbs).reverse else (decL z.natAbs).reverse := by rw [txtL, if_neg h]
end Go.Proofs.YtnpeakahiedeoaaGreatDoor
