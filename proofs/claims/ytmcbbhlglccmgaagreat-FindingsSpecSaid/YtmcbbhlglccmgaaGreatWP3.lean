import Derived.Test.YtmcbbhlglccmgaaGreatWSroot
namespace Go.Proofs.YtmcbbhlglccmgaaGreat
set_option linter.unusedSimpArgs false
set_option linter.unusedVariables false

theorem cs_both (least : Int) : ∀ (k : Nat) (l : List Int) (s : Int), cs least k l s + cs (1 - least) k (l.map fun x => -x) (-s) = bin l.length k
  | 0, l, s => by
    simp only [cs, bin_zero]
    by_cases h : least ≤ s
    · rw [if_pos h, if_neg (by omega)]
    · rw [if_neg h, if_pos (by omega)]
  | k + 1, [], s => rfl
  | k + 1, x :: l, s => by
    have h1 := cs_both least k l (s + x)
    have h2 := cs_both least (k + 1) l s
    simp only [cs, List.map_cons, List.length_cons, bin_succ]
    rw [show -s + -x = -(s + x) by omega]
    omega
theorem cs_le_bin (least : Int) (k : Nat) (l : List Int) (s : Int) : cs least k l s ≤ bin l.length k := by have := cs_both least k l s; omega
/-! Layer 42, plain: the sets of entries by their bits. -/
/-- Bit i of a set. -/
def bitN (s i : Nat) : Nat := s / 2 ^ i % 2
def szW (s : Nat) : Nat → Nat
  | 0 => 0
  | n + 1 => szW s n + bitN s n
def smW (d : List Int) (s : Nat) : Nat → Int
  | 0 => 0
  | n + 1 => smW d s n + if bitN s n = 1 then d.getD n 0 else 0
end Go.Proofs.YtmcbbhlglccmgaaGreat

namespace Go.Proofs.YtmcbbhlglccmgaaGreat
open Go.RowKit Go BigFrame Go.Shelf
set_option maxRecDepth 100000
set_option linter.unusedSimpArgs false
set_option linter.unusedVariables false

/-! Layer 42, plain: all orders of n numbers, as the law lists them. -/
theorem swp_mem {x : List Int} {i k : Nat} (hi : i < x.length) (hk : k < x.length) : (swp x i k).Perm x := by
  by_cases e : i = k
  · subst e
    have : swp x i i = x := by
      refine List.ext_getElem (by simp [swp_length]) fun j h1 h2 => ?_
      have g : ∀ (l : List Int) (h : j < l.length), l[j] = l.getD j 0 := fun l h => by simp [List.getD, h]
      rw [g _ h1, g _ h2, swp_getD x hi hk]
      by_cases a : j = i <;> simp_all
    rw [this]
  · refine List.perm_iff_count.2 fun a => ?_
    unfold swp
    rw [List.count_set (by simpa using hk), List.count_set hi, List.getElem_set_ne e]
    have h1 : x.getD k 0 = x[k] := by simp [List.getD, hk]
    have h2 : x.getD i 0 = x[i] := by simp [List.getD, hi]
    simp only [h1, h2]
    have c1 : (if x[i] = a then 1 else 0) ≤ x.count a := by
      split
      · rename_i h; exact List.count_pos_iff.2 (h ▸ List.getElem_mem hi)
      · omega
    have c2 : (if x[k] = a then 1 else 0) ≤ x.count a := by
      split
      · rename_i h; exact List.count_pos_iff.2 (h ▸ List.getElem_mem hk)
      · omega
    simp only [beq_iff_eq]
    split <;> split <;> simp_all <;> omega

/-- Every order that the program makes is one of the numbers at hand. -/
theorem gen_perm : ∀ (f i : Nat) (x : List Int), i + f = x.length → ∀ p ∈ gen f i x, p.Perm x ∧ ∀ j, j < i → p.getD j 0 = x.getD j 0 := by
  intro f
  induction f with
  | zero => intro i x _ p hp; simp only [gen, List.mem_singleton] at hp; subst hp; exact ⟨.refl _, fun _ _ => rfl⟩
  | succ f ih =>
    intro i x hx p hp
    simp only [gen, List.mem_flatMap, List.mem_range] at hp
    obtain ⟨d, hd, hp⟩ := hp
    obtain ⟨h1, h2⟩ := ih (i + 1) (swp x i (i + d)) (by rw [swp_length]; omega) p hp
    refine ⟨h1.trans (swp_mem (by omega) (by omega)), fun j hj => ?_⟩
    rw [h2 j (by omega), swp_getD x (by omega) (by omega), if_neg (by omega), if_neg (by omega)]

theorem gen_at : ∀ (f i : Nat) (x : List Int), i + (f + 1) = x.length → ∀ d, d < f + 1 → ∀ p ∈ gen f (i + 1) (swp x i (i + d)), p.getD i 0 = x.getD (i + d) 0 := by
  intro f i x hx d hd p hp
  rw [(gen_perm f (i + 1) _ (by rw [swp_length]; omega) p hp).2 i (by omega), swp_getD x (by omega) (by omega)]
  by_cases h : d = 0
  · subst h; simp
  · rw [if_neg (by omega), if_pos rfl]

theorem iota_mem (n : Nat) (x : Int) : x ∈ iota n ↔ 0 ≤ x ∧ x < n := by
  simp only [iota, List.mem_map, List.mem_range]
  constructor
  · rintro ⟨i, hi, rfl⟩; omega
  · intro h; exact ⟨x.toNat, by omega, by omega⟩

def ordP (n : Nat) (p : List Int) (k : Nat) : List (List Int) := (List.range k).map fun at_ => p.take at_ ++ (n : Int) :: p.drop at_
def ordersL : Nat → List (List Int)
  | 0 => [[]]
  | n + 1 => (ordersL n).flatMap fun p => ordP n p (n + 1)
theorem iota_succ (n : Nat) : iota (n + 1) = iota n ++ [(n : Int)] := by simp [iota, List.range_succ]
theorem iota_len (n : Nat) : (iota n).length = n := by simp [iota]
end Go.Proofs.YtmcbbhlglccmgaaGreat

namespace Go.Proofs.YtmcbbhlglccmgaaGreat
open Go.RowKit Go BigFrame Go.Shelf
set_option maxRecDepth 100000

/-- All the orders of n. -/
def G (n : Nat) : List (List Int) := gen n 0 (iota n)
structure Ord (n : Nat) (p : List Int) : Prop where
  len : p.length = n
  rng : ∀ x ∈ p, 0 ≤ x ∧ x < (n : Int)
  nd : p.Nodup
theorem Ord.perm {n : Nat} {p : List Int} (h : Ord n p) : p.Perm (iota n) := perm_of_subset _ _ h.nd (fun a ha => (iota_mem n a).2 (h.rng a ha)) (by rw [iota_len, h.len]; exact Nat.le_refl _)
theorem Ord.at {n : Nat} {p : List Int} (h : Ord n p) {j : Nat} (hj : j < n) : 0 ≤ p.getD j 0 ∧ p.getD j 0 < (n : Int) := by
  refine h.rng _ ?_
  simp only [List.getD, List.getElem?_eq_getElem (show j < p.length by rw [h.len]; exact hj), Option.getD_some]
  exact List.getElem_mem _
/-- Where a number stands. -/
def idx : List Int → Int → Nat
  | [], _ => 0
  | x :: p, v => if x = v then 0 else idx p v + 1
def inv (n : Nat) (p : List Int) : List Int := (List.range n).map fun (v : Nat) => ((idx p (v : Int) : Nat) : Int)
theorem Ord.has {n : Nat} {p : List Int} (h : Ord n p) {v : Nat} (hv : v < n) : (v : Int) ∈ p := h.perm.mem_iff.2 ((iota_mem n v).2 ⟨by omega, by omega⟩)
def tau (i j v : Int) : Int := if v = i then j else if v = j then i else v
end Go.Proofs.YtmcbbhlglccmgaaGreat

