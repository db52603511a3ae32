import Derived.Test.YtmkleegfbapakaaEPerm
namespace Go.Proofs.Ytmkleegfbapakaa
open Go.RowKit Go BigFrame Go.Shelf
set_option maxRecDepth 100000
set_option linter.unusedSimpArgs false

theorem swp_mem {x : List Int} {i k : Nat} (hi : i < x.length) (hk : k < x.length) : (swp x i k).Perm x := by
  by_cases e : i = k
  · subst e
    have : swp x i i = x := by
      refine List.ext_getElem (by simp [swp_length]) fun j h1 h2 => ?_
      have g : ∀ (l : List Int) (h : j < l.length), l[j] = l.getD j 0 := fun l h => by simp [List.getD, h]
      rw [g _ h1, g _ h2, swp_getD x hi hk]
      by_cases a : j = i <;> simp_all
    rw [this]
  · refine List.perm_iff_count.2 fun a => ?_
    unfold swp
    rw [List.count_set (by simpa using hk), List.count_set hi, List.getElem_set_ne e]
    have h1 : x.getD k 0 = x[k] := by simp [List.getD, hk]
    have h2 : x.getD i 0 = x[i] := by simp [List.getD, hi]
    simp only [h1, h2]
    have c1 : (if x[i] = a then 1 else 0) ≤ x.count a := by
      split
      · rename_i h; exact List.count_pos_iff.2 (h ▸ List.getElem_mem hi)
      · omega
    have c2 : (if x[k] = a then 1 else 0) ≤ x.count a := by
      split
      · rename_i h; exact List.count_pos_iff.2 (h ▸ List.getElem_mem hk)
      · omega
    simp only [beq_iff_eq]
    split <;> split <;> simp_all <;> omega

/-- Every order that the program makes is one of the numbers at hand. -/
theorem gen_perm : ∀ (f i : Nat) (x : List Int), i + f = x.length → ∀ p ∈ gen f i x, p.Perm x ∧ ∀ j, j < i → p.getD j 0 = x.getD j 0 := by
  intro f
  induction f with
  | zero => intro i x _ p hp; simp only [gen, List.mem_singleton] at hp; subst hp; exact ⟨.refl _, fun _ _ => rfl⟩
  | succ f ih =>
    intro i x hx p hp
    simp only [gen, List.mem_flatMap, List.mem_range] at hp
    obtain ⟨d, hd, hp⟩ := hp
    obtain ⟨h1, h2⟩ := ih (i + 1) (swp x i (i + d)) (by rw [swp_length]; omega) p hp
    refine ⟨h1.trans (swp_mem (by omega) (by omega)), fun j hj => ?_⟩
    rw [h2 j (by omega), swp_getD x (by omega) (by omega), if_neg (by omega), if_neg (by omega)]

theorem gen_at : ∀ (f i : Nat) (x : List Int), i + (f + 1) = x.length → ∀ d, d < f + 1 → ∀ p ∈ gen f (i + 1) (swp x i (i + d)), p.getD i 0 = x.getD (i + d) 0 := by
  intro f i x hx d hd p hp
  rw [(gen_perm f (i + 1) _ (by rw [swp_length]; omega) p hp).2 i (by omega), swp_getD x (by omega) (by omega)]
  by_cases h : d = 0
  · subst h; simp
  · rw [if_neg (by omega), if_pos rfl]

/-- No order comes twice. -/
theorem gen_nodup : ∀ (f i : Nat) (x : List Int), i + f = x.length → x.Nodup → (gen f i x).Nodup := by
  intro f
  induction f with
  | zero => intro i x _ _; simp [gen]
  | succ f ih =>
    intro i x hx hn
    have hT : ∀ d, d ≤ f + 1 → (genTo f i d x).Nodup := by
      intro d
      induction d with
      | zero => intro _; simp [genTo]
      | succ d ihd =>
        intro hd
        rw [genTo_succ]
        refine List.nodup_append.2 ⟨ihd (by omega), ih _ _ (by rw [swp_length]; omega) ((swp_mem (by omega) (by omega)).nodup_iff.2 hn), fun p hp q hq e => ?_⟩
        subst e
        simp only [genTo, List.mem_flatMap, List.mem_range] at hp
        obtain ⟨d', hd', hp⟩ := hp
        have e1 := gen_at f i x hx d' (by omega) p hp
        have e2 := gen_at f i x hx d (by omega) p hq
        rw [e1] at e2
        have l1 : i + d' < x.length := by omega
        have l2 : i + d < x.length := by omega
        simp only [List.getD, List.getElem?_eq_getElem l1, List.getElem?_eq_getElem l2, Option.getD_some] at e2
        exact absurd e2 (List.pairwise_iff_getElem.1 hn (i + d') (i + d) l1 l2 (by omega))
    exact hT (f + 1) (Nat.le_refl _)
end Go.Proofs.Ytmkleegfbapakaa
