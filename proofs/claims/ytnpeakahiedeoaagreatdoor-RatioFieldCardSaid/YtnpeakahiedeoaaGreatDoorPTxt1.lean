import Derived.Test.YtnpeakahiedeoaaGreatDoorPRead2
namespace Go.Proofs.YtnpeakahiedeoaaGreatDoor
open Go.RowKit Go BigFrame
set_option maxRecDepth 100000
set_option linter.unusedSimpArgs false

/-! Texts are read back, and what is read has this text. -/
theorem isDig_of (k : Nat) : isDig (UInt8.ofNat (48 + k % 10)) = true ∧ (UInt8.ofNat (48 + k % 10)).toNat = 48 + k % 10 := by
  have h : (UInt8.ofNat (48 + k % 10)).toNat = 48 + k % 10 := by rw [UInt8.toNat_ofNat']; omega
  exact ⟨by simp only [isDig, Bool.and_eq_true, decide_eq_true_eq]; omega, h⟩
theorem dec_rev (U : Nat) : numL (decL U).reverse = U ∧ (decL U).reverse.all isDig = true := by
  induction U using Nat.strongRecOn with
  | _ U ih =>
    by_cases h : U = 0
    · subst h; rw [decL_zero]; exact ⟨rfl, rfl⟩
    · obtain ⟨h1, h2⟩ := ih (U / 10) (by omega)
      rw [decL_pos (by omega), List.reverse_cons, numL_snoc, h1, (isDig_of U).2, List.all_append, h2]
      exact ⟨by omega, by rw [List.all_cons, (isDig_of U).1]; rfl⟩
theorem dec_head {U : Nat} (h : 0 < U) : ∃ (b : UInt8) (l : List UInt8), (decL U).reverse = b :: l ∧ b ≠ 48 ∧ isDig b = true := by
  obtain ⟨l, d, e, hd⟩ := decL_last U h
  have h2 := (dec_rev U).2
  rw [e, List.reverse_append] at h2
  refine ⟨d, l.reverse, by rw [e, List.reverse_append]; rfl, hd, ?_⟩
  simp only [List.reverse_cons, List.reverse_nil, List.nil_append, List.singleton_append, List.all_cons, Bool.and_eq_true] at h2
  exact h2.1
theorem okHead_ne {neg : Bool} {b : UInt8} {l : List UInt8} (h : b ≠ 48) : okHead neg (b :: l) = true := by
  cases l with
  | nil => simp [okHead, h]
  | cons c l => simp [okHead, h]
theorem read_text (z : Int) : readL (txtL z) = some z := by
  by_cases h0 : z = 0
  · subst h0; decide
  · rw [txt_pos h0]
    obtain ⟨b, l, e, hb, hd⟩ := dec_head (U := z.natAbs) (by omega)
    obtain ⟨h1, h2⟩ := dec_rev z.natAbs
    by_cases hz : z < 0
    · rw [if_pos hz]
      have hn : negOf (45 :: (decL z.natAbs).reverse) = true := by simp [negOf]
      have hr : restOf (45 :: (decL z.natAbs).reverse) = (decL z.natAbs).reverse := by simp [restOf]
      unfold readL
      rw [hn, hr, h1, h2, e, okHead_ne hb]
      simp only [Bool.and_self, if_true, sgn]
      congr 1; omega
    · rw [if_neg hz]
      have h45 : b ≠ 45 := fun h => by subst h; simp [isDig] at hd
      have hn : negOf (decL z.natAbs).reverse = false := by rw [e]; simp [negOf, h45]
      have hr : restOf (decL z.natAbs).reverse = (decL z.natAbs).reverse := by unfold restOf; rw [e]; simp [h45]
      unfold readL
      rw [hn, hr, h1, h2, e, okHead_ne hb]
      simp only [Bool.and_self, if_true, sgn]
      simp only [Bool.false_eq_true, if_false]
      congr 1; omega
theorem dec_num (r : List UInt8) : r.all isDig = true → (∀ b l, r = b :: l → b ≠ 48) → (decL (numL r)).reverse = r := by
  refine list_snoc_ind (P := fun r => r.all isDig = true → (∀ b l, r = b :: l → b ≠ 48) → (decL (numL r)).reverse = r) (fun _ _ => by rw [show numL [] = 0 from rfl, decL_zero]; rfl) (fun r b ih ha hh => ?_) r
  have hp : 0 < numL (r ++ [b]) := by
    cases r with
    | nil => exact numL_pos (hh b [] rfl) ha
    | cons c r => exact numL_pos (hh c (r ++ [b]) rfl) ha
  rw [List.all_append, Bool.and_eq_true] at ha
  have hb : isDig b = true := by simpa using ha.2
  simp only [isDig, Bool.and_eq_true, decide_eq_true_eq] at hb
  rw [decL_pos hp, List.reverse_cons, numL_snoc]
  have e1 : (numL r * 10 + (b.toNat - 48)) / 10 = numL r := by omega
  have e2 : UInt8.ofNat (48 + (numL r * 10 + (b.toNat - 48)) % 10) = b := by
    apply UInt8.toNat_inj.1
    rw [UInt8.toNat_ofNat']; omega
  rw [e1, e2]
  congr 1
  cases r with
  | nil => rw [show numL [] = 0 from rfl, decL_zero]; rfl
  | cons c r => exact ih ha.1 (fun b' l' e => by cases e; exact hh c (r ++ [b]) rfl)
theorem text_read {l : List UInt8} {z : Int} (h : readL l = some z) : txtL z = l := by
  unfold readL at h
  by_cases hc : (okHead (negOf l) (restOf l) && (restOf l).all isDig) = true
  · rw [if_pos hc] at h
    obtain ⟨h1, h2⟩ := (Bool.and_eq_true _ _).mp hc
    have hz := (Option.some.inj h).symm
    by_cases hn : l.head? = some 45
    · have hneg : negOf l = true := by simp [negOf, hn]
      have hr : restOf l = l.tail := by simp [restOf, hn]
      rw [hneg, hr] at h1 hz
      rw [hr] at h2
      have hl : l = 45 :: l.tail := by
        cases l with
        | nil => cases hn
        | cons b t => simp at hn; rw [hn]; rfl
      have hh : ∀ b t, l.tail = b :: t → b ≠ 48 := fun b t e hb => by
        rw [e, hb] at h1
        cases t with
        | nil => simp [okHead] at h1
        | cons c t => simp [okHead] at h1
      have hd := dec_num l.tail h2 hh
      have hp : 0 < numL l.tail := by
        cases ht : l.tail with
        | nil => rw [ht] at h1; simp [okHead] at h1
        | cons b t => rw [ht] at h2; exact numL_pos (hh b t ht) h2
      rw [hz, show sgn true (numL l.tail : Int) = -(numL l.tail : Int) from rfl, txt_pos (by omega), if_pos (by omega), show (-(numL l.tail : Int)).natAbs = numL l.tail by omega, hd]
      exact hl.symm
    · have hneg : negOf l = false := by simp [negOf, hn]
      have hr : restOf l = l := by simp [restOf, hn]
      rw [hneg, hr] at h1 hz
      rw [hr] at h2
      by_cases h48 : ∃ t, l = 48 :: t
      · obtain ⟨t, rfl⟩ := h48
        cases t with
        | nil => rw [hz]; rfl
        | cons c t => simp [okHead] at h1
      · have hh : ∀ b t, l = b :: t → b ≠ 48 := fun b t e hb => h48 ⟨t, by rw [e, hb]⟩
        have hd := dec_num l h2 hh
        have hp : 0 < numL l := by
          cases ht : l with
          | nil => rw [ht] at h1; simp [okHead] at h1
          | cons b t => rw [ht] at h2; exact numL_pos (hh b t ht) h2
        rw [hz, show sgn false (numL l : Int) = (numL l : Int) from rfl, txt_pos (by omega), if_neg (by omega), show ((numL l : Int)).natAbs = numL l by omega, hd]
  · rw [if_neg hc] at h; cases h
theorem read_len {l : List UInt8} {z : Int} (h : readL l = some z) (hl : l.length ≤ 1000) : Len z := by
  unfold readL at h
  by_cases hc : (okHead (negOf l) (restOf l) && (restOf l).all isDig) = true
  · rw [if_pos hc] at h
    obtain ⟨_, h2⟩ := (Bool.and_eq_true _ _).mp hc
    have hz := (Option.some.inj h).symm
    have h3 := numL_lt _ h2
    have h4 : (restOf l).length ≤ 1000 := by
      have h1 : (restOf l).length ≤ l.length := by unfold restOf; split <;> simp
      omega
    have h5 := dec_len h3 h4
    unfold Len
    rw [hz, show (sgn (negOf l) (numL (restOf l) : Int)).natAbs = numL (restOf l) by unfold sgn; split <;> omega]
    omega
  · rw [if_neg hc] at h; cases h
end Go.Proofs.YtnpeakahiedeoaaGreatDoor
