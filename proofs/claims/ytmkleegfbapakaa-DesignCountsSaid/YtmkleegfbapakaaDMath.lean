import Derived.Test.YtmkleegfbapakaaDCnt
import Derived.Test.YtmkleegfbapakaaDMeas2
namespace Go.Proofs.Ytmkleegfbapakaa
open D28

/-- The sum of f 0 .. f (n - 1). -/
def sm : Nat → (Nat → Int) → Int
  | 0, _ => 0
  | n + 1, f => sm n f + f n
theorem sm_congr {n : Nat} {f g : Nat → Int} (h : ∀ i, i < n → f i = g i) : sm n f = sm n g := by
  induction n with
  | zero => rfl
  | succ n ih => simp only [sm]; rw [ih (fun i hi => h i (by omega)), h n (by omega)]
theorem sm_add (n : Nat) (f g : Nat → Int) : sm n (fun i => f i + g i) = sm n f + sm n g := by
  induction n with
  | zero => rfl
  | succ n ih => simp only [sm]; rw [ih]; omega
theorem sm_zero (n : Nat) : sm n (fun _ => 0) = 0 := by
  induction n with
  | zero => rfl
  | succ n ih => simp only [sm]; rw [ih]; rfl
theorem sm_le {n : Nat} {f g : Nat → Int} (h : ∀ i, i < n → f i ≤ g i) : sm n f ≤ sm n g := by
  induction n with
  | zero => exact Int.le_refl _
  | succ n ih =>
    have h1 := ih (fun i hi => h i (by omega))
    have h2 := h n (by omega)
    simp only [sm]; omega
theorem sm_const (n : Nat) (c : Int) : sm n (fun _ => c) = n * c := by
  induction n with
  | zero => simp [sm]
  | succ n ih => simp only [sm]; rw [ih, Int.natCast_add, Int.add_mul]; simp
theorem sm_one {n x : Nat} (g : Nat → Int) (hx : x < n) : sm n (fun i => if i = x then g i else 0) = g x := by
  induction n with
  | zero => omega
  | succ n ih =>
    simp only [sm]
    by_cases h : x = n
    · subst h
      rw [sm_congr (g := fun _ => 0) (fun i hi => if_neg (by omega)), sm_zero]; simp
    · rw [ih (by omega), if_neg (fun e => h e.symm)]; omega

/-- Summing over the members of a list without repetitions. -/
theorem sm_mem {J : Nat} (g : Nat → Int) : ∀ (r : List Int), r.Nodup → (∀ x ∈ r, 0 ≤ x ∧ x < J) → sm J (fun j => if (j : Int) ∈ r then g j else 0) = (r.map fun x => g x.toNat).sum
  | [], _, _ => by simp [sm_zero]
  | x :: r, hn, hr => by
    obtain ⟨hx, hn'⟩ := List.nodup_cons.1 hn
    have ih := sm_mem g r hn' (fun y hy => hr y (by simp [hy]))
    obtain ⟨h0, h1⟩ := hr x (by simp)
    have e : sm J (fun j => if (j : Int) ∈ x :: r then g j else 0) = sm J (fun j => (if j = x.toNat then g j else 0) + if (j : Int) ∈ r then g j else 0) := by
      refine sm_congr fun j _ => ?_
      by_cases hj : (j : Int) = x
      · have h2 : j = x.toNat := by omega
        have h3 : ¬ (j : Int) ∈ r := by rw [hj]; exact hx
        rw [if_pos (by simp [hj]), if_pos h2, if_neg h3]; omega
      · have h2 : ¬ j = x.toNat := by omega
        rw [if_neg h2]
        simp [hj]
    rw [e, sm_add, sm_one _ (by omega), ih]
    simp
theorem Inc.nodup {l : List Int} (h : Inc l) : l.Nodup := by
  unfold Inc at h
  exact h.imp (fun {a b} hab => by omega)
theorem sum_ind (r p : List Int) : (r.map fun x => if ((x.toNat : Nat) : Int) ∈ p then (1 : Int) else 0).sum = (r.countP fun x => decide (((x.toNat : Nat) : Int) ∈ p) : Nat) := by
  induction r with
  | nil => rfl
  | cons x r ih =>
    rw [List.map_cons, List.sum_cons, ih, List.countP_cons]
    by_cases h : ((x.toNat : Nat) : Int) ∈ p
    · rw [if_pos h, if_pos (by simpa using h)]; omega
    · rw [if_neg h, if_neg (by simpa using h)]; omega
theorem common_sum {J : Nat} {r p : List Int} (hn : r.Nodup) (hr : ∀ x ∈ r, 0 ≤ x ∧ x < J) : (dCommon r p : Int) = sm J (fun j => if (j : Int) ∈ r then (if (j : Int) ∈ p then 1 else 0) else 0) := by
  rw [sm_mem (fun j => if (j : Int) ∈ p then 1 else 0) r hn hr, sum_ind]
  unfold dCommon
  congr 1
  refine List.countP_congr fun x hx => ?_
  have := (hr x hx).1
  rw [show ((x.toNat : Nat) : Int) = x by omega]
theorem length_sum {J : Nat} {r : List Int} (hn : r.Nodup) (hr : ∀ x ∈ r, 0 ≤ x ∧ x < J) : (r.length : Int) = sm J (fun j => if (j : Int) ∈ r then 1 else 0) := by
  rw [sm_mem (fun _ => 1) r hn hr]
  clear hn hr
  induction r with
  | nil => rfl
  | cons x r ih => rw [List.length_cons, List.map_cons, List.sum_cons, ← ih]; omega

def Good (ps : List (List Int)) (J : Nat) (S : Int) : Prop := ∀ i, i < ps.length → ((ps.getD i []).length : Int) = S ∧ Inc (ps.getD i []) ∧ ∀ x ∈ ps.getD i [], 0 ≤ x ∧ x < (J : Int)
theorem load_succ {ps : List (List Int)} {i : Nat} (hi : i < ps.length) (j : Int) : dLoad (ps.take (i + 1)) j = dLoad (ps.take i) j + if j ∈ ps.getD i [] then 1 else 0 :=
  load_take (by simp [List.getD, hi])

/-- The loads add up. -/
theorem loads_sum {ps : List (List Int)} {J : Nat} {S : Int} (h : Good ps J S) : ∀ i, i ≤ ps.length → sm J (fun j => (dLoad (ps.take i) (j : Int) : Int)) = i * S := by
  intro i
  induction i with
  | zero => intro _; simp [dLoad, sm_zero]
  | succ i ih =>
    intro hi
    obtain ⟨h1, h2, h3⟩ := h i (by omega)
    have e : sm J (fun j => (dLoad (ps.take (i + 1)) (j : Int) : Int)) = sm J (fun j => (dLoad (ps.take i) (j : Int) : Int) + if (j : Int) ∈ ps.getD i [] then 1 else 0) := sm_congr fun j _ => by
      rw [load_succ (by omega)]
      split <;> simp
    rw [e, sm_add, ih (by omega), ← length_sum h2.nodup h3, h1, Int.natCast_add, Int.add_mul]
    simp
theorem pairsI_succ (x : Int) : pairsI (x + 1) = pairsI x + x := by
  unfold pairsI
  rw [show (x + 1) * (x + 1 - 1) = x * (x - 1) + x * 2 by grind, Int.add_mul_ediv_right _ _ (by omega)]
/-- The common judges with a new row. -/
theorem commons_row {ps : List (List Int)} {J : Nat} {S : Int} (h : Good ps J S) {i : Nat} (hi : i < ps.length) : ∀ k, k ≤ i →
    ((List.range k).map fun k => (dCommon (ps.getD i []) (ps.getD k []) : Int)).sum = sm J (fun j => if (j : Int) ∈ ps.getD i [] then (dLoad (ps.take k) (j : Int) : Int) else 0) := by
  obtain ⟨_, h2, h3⟩ := h i hi
  intro k
  induction k with
  | zero =>
    intro _
    rw [sm_congr (g := fun _ => 0) (fun j _ => by simp [dLoad]), sm_zero]; rfl
  | succ k ih =>
    intro hk
    rw [List.range_succ, List.map_append, List.sum_append, ih (by omega), List.map_singleton, List.sum_singleton, common_sum h2.nodup h3, ← sm_add]
    refine sm_congr fun j _ => ?_
    rw [load_succ (by omega)]
    split
    · split <;> simp
    · simp
theorem twos_sum {ps : List (List Int)} {J : Nat} {S : Int} (h : Good ps J S) : ∀ i, i ≤ ps.length → sm J (fun j => pairsI (dLoad (ps.take i) (j : Int))) = (commonsTo ps i 0).sum := by
  intro i
  induction i with
  | zero =>
    intro _
    rw [sm_congr (g := fun _ => 0) (fun j _ => by simp [dLoad, pairsI]), sm_zero]; simp [commonsTo]
  | succ i ih =>
    intro hi
    have e : commonsTo ps (i + 1) 0 = commonsTo ps i 0 ++ (List.range i).map fun k => (dCommon (ps.getD i []) (ps.getD k []) : Int) := by
      rw [← commonsTo_next]; simp [commonsTo]
    rw [e, List.sum_append, commons_row h (by omega) i (Nat.le_refl _), ← ih (by omega), ← sm_add]
    refine sm_congr fun j _ => ?_
    rw [load_succ (by omega)]
    split
    · rw [Int.natCast_add, Int.natCast_one, pairsI_succ]
    · simp

/-- lowest and highest: what they are. -/
theorem lo_spec (n : Int) (l : List Int) : dLo n l ≤ n ∧ (∀ x ∈ l, dLo n l ≤ x) ∧ (dLo n l = n ∨ dLo n l ∈ l) := by
  unfold dLo
  induction l generalizing n with
  | nil => simp
  | cons y l ih =>
    obtain ⟨h1, h2, h3⟩ := ih (min n y)
    simp only [List.foldl_cons]
    refine ⟨by omega, fun x hx => ?_, ?_⟩
    · rcases List.mem_cons.1 hx with rfl | hx
      · omega
      · exact h2 x hx
    · rcases h3 with h3 | h3
      · rw [h3]
        by_cases h : n ≤ y
        · left; omega
        · right; simp; left; omega
      · right; simp [h3]
theorem hi_spec (n : Int) (l : List Int) : n ≤ dHi n l ∧ (∀ x ∈ l, x ≤ dHi n l) ∧ (dHi n l = n ∨ dHi n l ∈ l) := by
  unfold dHi
  induction l generalizing n with
  | nil => simp
  | cons y l ih =>
    obtain ⟨h1, h2, h3⟩ := ih (max n y)
    simp only [List.foldl_cons]
    refine ⟨by omega, fun x hx => ?_, ?_⟩
    · rcases List.mem_cons.1 hx with rfl | hx
      · omega
      · exact h2 x hx
    · rcases h3 with h3 | h3
      · rw [h3]
        by_cases h : y ≤ n
        · left; omega
        · right; simp; left; omega
      · right; simp [h3]
end Go.Proofs.Ytmkleegfbapakaa
