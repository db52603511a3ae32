import Derived.Test.YtmkleegfbapakaaESubM
import Derived.Test.YtmkleegfbapakaaNA
namespace Go.Proofs.Ytmkleegfbapakaa

/-! The subsets on both sides of a sum are all of them. -/
theorem cs_both (least : Int) : ∀ (k : Nat) (l : List Int) (s : Int), cs least k l s + cs (1 - least) k (l.map fun x => -x) (-s) = bin l.length k
  | 0, l, s => by
    simp only [cs, bin_zero]
    by_cases h : least ≤ s
    · rw [if_pos h, if_neg (by omega)]
    · rw [if_neg h, if_pos (by omega)]
  | k + 1, [], s => rfl
  | k + 1, x :: l, s => by
    have h1 := cs_both least k l (s + x)
    have h2 := cs_both least (k + 1) l s
    simp only [cs, List.map_cons, List.length_cons, bin_succ]
    rw [show -s + -x = -(s + x) by omega]
    omega
theorem cs_bin (least : Int) (k : Nat) (l : List Int) : cs least k l 0 + cs (1 - least) k (l.map fun x => -x) 0 = bin l.length k := cs_both least k l 0
theorem cs_le_bin (least : Int) (k : Nat) (l : List Int) (s : Int) : cs least k l s ≤ bin l.length k := by have := cs_both least k l s; omega
/-- With the first value, and without it. -/
theorem cs_shift (least : Int) : ∀ (k : Nat) (l : List Int) (s x : Int), cs least k l (s + x) = cs (least - x) k l s
  | 0, l, s, x => by
    simp only [cs]
    by_cases h : least ≤ s + x
    · rw [if_pos h, if_pos (by omega)]
    · rw [if_neg h, if_neg (by omega)]
  | k + 1, [], s, x => rfl
  | k + 1, y :: l, s, x => by
    simp only [cs]
    rw [show s + x + y = s + y + x by omega, cs_shift least k l (s + y) x, cs_shift least (k + 1) l s x]
theorem cs_first (least : Int) (k : Nat) (x : Int) (l : List Int) : cs least (k + 1) (x :: l) 0 = cs (least - x) k l 0 + cs least (k + 1) l 0 := by
  simp only [cs]; rw [cs_shift]
theorem cs_mono {a b : Int} (h : a ≤ b) : ∀ (k : Nat) (l : List Int) (s : Int), cs b k l s ≤ cs a k l s
  | 0, l, s => by
    simp only [cs]
    by_cases h1 : b ≤ s
    · rw [if_pos h1, if_pos (by omega)]; omega
    · rw [if_neg h1]; omega
  | k + 1, [], s => Nat.le_refl _
  | k + 1, x :: l, s => by
    have h1 := cs_mono h k l (s + x)
    have h2 := cs_mono h (k + 1) l s
    simp only [cs]; omega
/-- The order does not matter. -/
theorem cs_perm (least : Int) {l m : List Int} (h : l.Perm m) : ∀ (k : Nat) (s : Int), cs least k l s = cs least k m s := by
  induction h with
  | nil => intro k s; rfl
  | cons x _ ih =>
    intro k s
    cases k with
    | zero => rfl
    | succ k => simp only [cs]; rw [ih, ih]
  | swap x y l =>
    intro k s
    cases k with
    | zero => rfl
    | succ k =>
      cases k with
      | zero => simp only [cs]; omega
      | succ k =>
        simp only [cs]
        rw [show s + x + y = s + y + x by omega]
        omega
  | trans _ _ ih1 ih2 => intro k s; rw [ih1, ih2]
end Go.Proofs.Ytmkleegfbapakaa
