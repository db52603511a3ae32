import Derived.Test.YtmkleegfbapakaaEPerm2
namespace Go.Proofs.Ytmkleegfbapakaa
open Go.RowKit Go BigFrame Go.Shelf
set_option maxRecDepth 100000
set_option linter.unusedSimpArgs false

theorem perm_of_subset {α : Type} [DecidableEq α] : ∀ (p l : List α), p.Nodup → (∀ a ∈ p, a ∈ l) → l.length ≤ p.length → p.Perm l
  | [], l, _, _, h => by
    have : l = [] := List.length_eq_zero_iff.1 (by simpa using h)
    subst this
    exact .refl _
  | a :: p, l, hn, hs, h => by
    have ha : a ∈ l := hs a (by simp)
    have hc := List.nodup_cons.1 hn
    have hl := List.length_erase_of_mem ha
    have h0 := List.length_pos_of_mem ha
    refine ((perm_of_subset p (l.erase a) hc.2 (fun x hx => (List.mem_erase_of_ne (show x ≠ a from fun e => hc.1 (e ▸ hx))).2 (hs x (by simp [hx]))) (by simp only [List.length_cons] at h; omega)).cons a).trans (List.perm_cons_erase ha).symm

theorem perm_of_members {α : Type} [DecidableEq α] (p l : List α) (hp : p.Nodup) (hl : l.Nodup) (h : ∀ a, a ∈ p ↔ a ∈ l) : p.Perm l := by
  rcases Nat.le_total l.length p.length with h1 | h1
  · exact perm_of_subset p l hp (fun a ha => (h a).1 ha) h1
  · exact (perm_of_subset l p hl (fun a ha => (h a).2 ha) h1).symm

theorem gen_all : ∀ (f i : Nat) (x p : List Int), i + f = x.length → x.Nodup → p.Perm x → (∀ j, j < i → p.getD j 0 = x.getD j 0) → p ∈ gen f i x := by
  intro f
  induction f with
  | zero =>
    intro i x p hx hn hp hj
    simp only [gen, List.mem_singleton]
    have hl := hp.length_eq
    refine List.ext_getElem hl fun j h1 h2 => ?_
    have := hj j (by omega)
    simpa [List.getD, h1, h2] using this
  | succ f ih =>
    intro i x p hx hn hp hj
    have hl := hp.length_eq
    have hip : i < p.length := by omega
    have hpn : p.Nodup := hp.nodup_iff.2 hn
    have hm : p[i] ∈ x := hp.mem_iff.1 (List.getElem_mem hip)
    obtain ⟨j, hjx, hjp⟩ := List.getElem_of_mem hm
    have hij : i ≤ j := by
      rcases Nat.lt_or_ge j i with h | h
      · have e := hj j h
        have hjp' : j < p.length := by omega
        simp only [List.getD, List.getElem?_eq_getElem hjx, List.getElem?_eq_getElem hjp', Option.getD_some] at e
        exact absurd (e.trans hjp) (List.pairwise_iff_getElem.1 hpn j i hjp' hip h)
      · exact h
    obtain ⟨d, rfl⟩ : ∃ d, j = i + d := ⟨j - i, by omega⟩
    simp only [gen, List.mem_flatMap, List.mem_range]
    refine ⟨d, by omega, ih (i + 1) _ p (by rw [swp_length]; omega) ((swp_mem (by omega) (by omega)).nodup_iff.2 hn) (hp.trans (swp_mem (by omega) (by omega)).symm) fun k hk => ?_⟩
    rw [swp_getD x (by omega) (by omega)]
    by_cases e : k = i
    · subst e
      have g1 : p.getD k 0 = x.getD (k + d) 0 := by simp [List.getD, hip, hjx, hjp]
      by_cases hd : d = 0
      · subst hd; simpa using g1
      · rw [if_neg (by omega), if_pos rfl, g1]
    · rw [if_neg (by omega), if_neg e]
      exact hj k (by omega)

theorem iota_nodup (n : Nat) : (iota n).Nodup := by
  unfold iota
  rw [List.nodup_iff_pairwise_ne, List.pairwise_map]
  exact List.Pairwise.imp (fun h e => h (by omega)) List.nodup_range
theorem iota_mem (n : Nat) (x : Int) : x ∈ iota n ↔ 0 ≤ x ∧ x < n := by
  simp only [iota, List.mem_map, List.mem_range]
  constructor
  · rintro ⟨i, hi, rfl⟩; omega
  · intro h; exact ⟨x.toNat, by omega, by omega⟩

/-- The program's orders and the reference's are the same orders. -/
theorem gen_refgen (n : Nat) : (gen n 0 (iota n)).Perm (refgen n [] n) := by
  have hlen : (iota n).length = n := by simp [iota]
  refine perm_of_members _ _ (gen_nodup n 0 _ (by omega) (iota_nodup n)) (refgen_nodup n n []) fun p => ?_
  rw [refgen_mem]
  constructor
  · intro hp
    have h := (gen_perm n 0 _ (by omega) p hp).1
    refine ⟨p, by simp, h.length_eq.trans hlen, fun x hx => ?_, h.nodup_iff.2 (iota_nodup n)⟩
    have := (iota_mem n x).1 (h.mem_iff.1 hx)
    exact ⟨this.1, this.2, by simp⟩
  · rintro ⟨t, rfl, hl, hm, hn⟩
    refine gen_all n 0 _ _ (by omega) (iota_nodup n) (perm_of_subset _ _ (by simpa using hn) (fun a ha => (iota_mem n a).2 (by have := hm a (by simpa using ha); exact ⟨this.1, this.2.1⟩)) (by rw [hlen]; simp [hl])) (fun j hj => by omega)
theorem count_refgen (n : Nat) (q : List Int → Bool) : (gen n 0 (iota n)).countP q = (refgen n [] n).countP q := (gen_refgen n).countP_eq q
end Go.Proofs.Ytmkleegfbapakaa
