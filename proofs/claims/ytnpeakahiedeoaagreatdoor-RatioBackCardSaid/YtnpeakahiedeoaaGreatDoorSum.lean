import Derived.Test.YtnpeakahiedeoaaGreatDoorBase
namespace Go.Proofs.YtnpeakahiedeoaaGreatDoor

theorem take_get {α : Type} {l : List α} {k : Nat} {y : α} (h : l[k]? = some y) : l.take (k + 1) = l.take k ++ [y] := by
  obtain ⟨hlt, he⟩ := List.getElem?_eq_some_iff.1 h
  rw [List.take_succ_eq_append_getElem hlt, he]


/-- The sum of f 0 .. f (n - 1). -/
def sm : Nat → (Nat → Int) → Int
  | 0, _ => 0
  | n + 1, f => sm n f + f n
theorem sm_congr {n : Nat} {f g : Nat → Int} (h : ∀ i, i < n → f i = g i) : sm n f = sm n g := by
  induction n with
  | zero => rfl
  | succ n ih => simp only [sm]; rw [ih (fun i hi => h i (by omega)), h n (by omega)]
theorem sm_add (n : Nat) (f g : Nat → Int) : sm n (fun i => f i + g i) = sm n f + sm n g := by
  induction n with
  | zero => rfl
  | succ n ih => simp only [sm]; rw [ih]; omega
theorem sm_zero (n : Nat) : sm n (fun _ => 0) = 0 := by
  induction n with
  | zero => rfl
  | succ n ih => simp only [sm]; rw [ih]; rfl
theorem sm_le {n : Nat} {f g : Nat → Int} (h : ∀ i, i < n → f i ≤ g i) : sm n f ≤ sm n g := by
  induction n with
  | zero => exact Int.le_refl _
  | succ n ih =>
    have h1 := ih (fun i hi => h i (by omega))
    have h2 := h n (by omega)
    simp only [sm]; omega
theorem sm_const (n : Nat) (c : Int) : sm n (fun _ => c) = n * c := by
  induction n with
  | zero => simp [sm]
  | succ n ih => simp only [sm]; rw [ih, Int.natCast_add, Int.add_mul]; simp
theorem sm_one {n x : Nat} (g : Nat → Int) (hx : x < n) : sm n (fun i => if i = x then g i else 0) = g x := by
  induction n with
  | zero => omega
  | succ n ih =>
    simp only [sm]
    by_cases h : x = n
    · subst h
      rw [sm_congr (g := fun _ => 0) (fun i hi => if_neg (by omega)), sm_zero]; simp
    · rw [ih (by omega), if_neg (fun e => h e.symm)]; omega

/-- Summing over the members of a list without repetitions. -/
theorem sm_mem {J : Nat} (g : Nat → Int) : ∀ (r : List Int), r.Nodup → (∀ x ∈ r, 0 ≤ x ∧ x < J) → sm J (fun j => if (j : Int) ∈ r then g j else 0) = (r.map fun x => g x.toNat).sum
  | [], _, _ => by simp [sm_zero]
  | x :: r, hn, hr => by
    obtain ⟨hx, hn'⟩ := List.nodup_cons.1 hn
    have ih := sm_mem g r hn' (fun y hy => hr y (by simp [hy]))
    obtain ⟨h0, h1⟩ := hr x (by simp)
    have e : sm J (fun j => if (j : Int) ∈ x :: r then g j else 0) = sm J (fun j => (if j = x.toNat then g j else 0) + if (j : Int) ∈ r then g j else 0) := by
      refine sm_congr fun j _ => ?_
      by_cases hj : (j : Int) = x
      · have h2 : j = x.toNat := by omega
        have h3 : ¬ (j : Int) ∈ r := by rw [hj]; exact hx
        rw [if_pos (by simp [hj]), if_pos h2, if_neg h3]; omega
      · have h2 : ¬ j = x.toNat := by omega
        rw [if_neg h2]
        simp [hj]
    rw [e, sm_add, sm_one _ (by omega), ih]
    simp
end Go.Proofs.YtnpeakahiedeoaaGreatDoor
