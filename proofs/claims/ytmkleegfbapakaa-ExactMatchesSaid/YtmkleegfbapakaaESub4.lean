import Derived.Test.YtmkleegfbapakaaELists
import Derived.Test.YtmkleegfbapakaaESubM
namespace Go.Proofs.Ytmkleegfbapakaa
open Go.RowKit Go
set_option maxRecDepth 100000

/-- The sum of the values at the numbers of a list. -/
def pv (l p : List Int) (k : Nat) : Int := sm k (fun i => l.getD (p.getD i 0).toNat 0)
theorem pv_succ (l p : List Int) (k : Nat) : pv l p (k + 1) = pv l p k + l.getD (p.getD k 0).toNat 0 := rfl
theorem pv_app (l p q : List Int) : ∀ k, k ≤ p.length → pv l (p ++ q) k = pv l p k := by
  intro k
  induction k with
  | zero => intro _; rfl
  | succ k ih =>
    intro hk
    rw [pv_succ, pv_succ, ih (by omega)]
    simp [List.getD, List.getElem?_append_left (show k < p.length by omega)]
theorem pv_snoc (l p : List Int) (x : Int) : pv l (p ++ [x]) (p.length + 1) = pv l p p.length + l.getD x.toNat 0 := by
  rw [pv_succ, pv_app l p [x] _ (Nat.le_refl _)]
  simp [List.getD]
theorem pv_bd {l : List Int} (p : List Int) (h : ∀ i, -1048576 ≤ l.getD i 0 ∧ l.getD i 0 ≤ 1048576) : ∀ k : Nat, -(1048576 * (k : Int)) ≤ pv l p k ∧ pv l p k ≤ 1048576 * k := by
  intro k
  induction k with
  | zero => simp [pv, sm]
  | succ k ih => have := h (p.getD k 0).toNat; rw [pv_succ]; omega
def cntV (l : List Int) (k : Nat) (sum : Int) (ps : List (List Int)) : Nat := ps.countP fun p => decide (sum ≤ pv l p k)
theorem cntV_take (l : List Int) (m : Nat) (sum : Int) (L : List (List Int)) (k : Nat) (hk : k < L.length) : cntV l m sum (L.take (k + 1)) = cntV l m sum (L.take k) + if sum ≤ pv l (L.getD k []) m then 1 else 0 := by
  unfold cntV
  rw [List.take_add_one, List.getElem?_eq_getElem hk, Option.toList_some, List.countP_append]
  by_cases h : sum ≤ pv l (L.getD k []) m
  · rw [if_pos h]; simp only [List.getD, List.getElem?_eq_getElem hk, Option.getD_some] at h; simp [h]
  · rw [if_neg h]; simp only [List.getD, List.getElem?_eq_getElem hk, Option.getD_some] at h; simp [h]
theorem cnt_refL (l : List Int) (sum : Int) (m : Nat) : ∀ (f : Nat) (b : List Int) (first : Nat), b.length + f = m → first ≤ l.length → cntV l m sum (refL f b first l.length) = cs sum f (l.drop first) (pv l b b.length) := by
  intro f
  induction f with
  | zero =>
    intro b first hb _
    simp only [Nat.add_zero] at hb
    subst hb
    by_cases h : sum ≤ pv l b b.length <;> simp [cntV, refL, cs, h]
  | succ f ih =>
    intro b first hb hf
    have h : ∀ k, k ≤ l.length - first → cntV l m sum (refLTo f b first l.length k) + cs sum (f + 1) (l.drop (first + k)) (pv l b b.length) = cs sum (f + 1) (l.drop first) (pv l b b.length) := by
      intro k
      induction k with
      | zero => intro _; simp [refLTo, cntV]
      | succ k ihk =>
        intro hk
        rw [← ihk (by omega), refLTo_succ]
        have e1 : cntV l m sum (refLTo f b first l.length k ++ refL f (b ++ [((first + k : Nat) : Int)]) (first + k + 1) l.length) = cntV l m sum (refLTo f b first l.length k) + cntV l m sum (refL f (b ++ [((first + k : Nat) : Int)]) (first + k + 1) l.length) := by
          unfold cntV; rw [List.countP_append]
        rw [e1, ih _ _ (by simp; omega) (by omega)]
        have e2 : (b ++ [((first + k : Nat) : Int)]).length = b.length + 1 := by simp
        rw [e2, pv_snoc]
        have e3 : l.drop (first + k) = l.getD (first + k) 0 :: l.drop (first + k + 1) := by
          rw [List.drop_eq_getElem_cons (by omega)]
          simp [List.getD, show first + k < l.length by omega]
        rw [e3, show first + (k + 1) = first + k + 1 by omega]
        simp only [cs]
        rw [show ((first + k : Nat) : Int).toNat = first + k by omega]
        omega
    have := h (l.length - first) (Nat.le_refl _)
    rw [show first + (l.length - first) = l.length by omega, List.drop_length] at this
    simp only [cs, Nat.add_zero] at this
    exact this
theorem cnt_refL_all (l : List Int) (sum : Int) (m : Nat) : cntV l m sum (refL m [] 0 l.length) = cs sum m l 0 := by
  have := cnt_refL l sum m m [] 0 (by simp) (Nat.zero_le _)
  simpa [pv, sm] using this
theorem refL_ok (n : Nat) : ∀ (f : Nat) (b : List Int) (first : Nat), (∀ x ∈ b, 0 ≤ x ∧ x < (n : Int)) → ∀ p ∈ refL f b first n, p.length = b.length + f ∧ ∀ x ∈ p, 0 ≤ x ∧ x < (n : Int) := by
  intro f
  induction f with
  | zero => intro b first hb p hp; simp only [refL, List.mem_singleton] at hp; subst hp; exact ⟨rfl, hb⟩
  | succ f ih =>
    intro b first hb p hp
    simp only [refL, List.mem_flatMap, List.mem_range] at hp
    obtain ⟨i, hi, hp⟩ := hp
    have := ih _ _ (fun x hx => by
      rcases List.mem_append.1 hx with h | h
      · exact hb x h
      · simp only [List.mem_singleton] at h; omega) p hp
    refine ⟨?_, this.2⟩
    rw [this.1]; simp; omega
end Go.Proofs.Ytmkleegfbapakaa
