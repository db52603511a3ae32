import Derived.Test.YtmkleegfbapakaaERef2
import Derived.Test.YtmkleegfbapakaaEOrd
namespace Go.Proofs.Ytmkleegfbapakaa
open Go.RowKit Go BigFrame Go.Shelf
set_option maxRecDepth 100000
set_option linter.unusedSimpArgs false

/-- The members of the reference's orders: every order without a number twice. -/
theorem refgen_mem (n : Nat) : ∀ (f : Nat) (b : List Int) (p : List Int), p ∈ refgen f b n ↔
    ∃ t : List Int, p = b ++ t ∧ t.length = f ∧ (∀ x ∈ t, 0 ≤ x ∧ x < n ∧ x ∉ b) ∧ t.Nodup := by
  intro f
  induction f with
  | zero =>
    intro b p
    simp only [refgen, List.mem_singleton]
    constructor
    · rintro rfl
      exact ⟨[], by simp⟩
    · rintro ⟨t, rfl, h, _⟩
      have : t = [] := List.length_eq_zero_iff.1 h
      simp [this]
  | succ f ih =>
    intro b p
    simp only [refgen, List.mem_flatMap, List.mem_range]
    constructor
    · rintro ⟨x, hx, hp⟩
      split at hp
      · simp at hp
      · rename_i hb
        obtain ⟨t, rfl, hl, hm, hn⟩ := (ih _ _).1 hp
        refine ⟨(x : Int) :: t, by simp, by simp [hl], fun y hy => ?_, ?_⟩
        · rcases List.mem_cons.1 hy with rfl | hy
          · exact ⟨by omega, by omega, hb⟩
          · obtain ⟨h1, h2, h3⟩ := hm y hy
            exact ⟨h1, h2, fun h => h3 (by simp [h])⟩
        · exact List.nodup_cons.2 ⟨fun h => (hm _ h).2.2 (by simp), hn⟩
    · rintro ⟨t, rfl, hl, hm, hn⟩
      match t, hl with
      | y :: t, hl =>
        obtain ⟨h1, h2, h3⟩ := hm y (by simp)
        refine ⟨y.toNat, by omega, ?_⟩
        have e : ((y.toNat : Nat) : Int) = y := by omega
        rw [e, if_neg h3]
        refine (ih _ _).2 ⟨t, by simp, by simpa using hl, fun z hz => ?_, (List.nodup_cons.1 hn).2⟩
        obtain ⟨a1, a2, a3⟩ := hm z (by simp [hz])
        refine ⟨a1, a2, fun h => ?_⟩
        rcases List.mem_append.1 h with h | h
        · exact a3 h
        · simp only [List.mem_singleton] at h
          subst h
          exact (List.nodup_cons.1 hn).1 hz

/-- No order comes twice. -/
theorem refgen_nodup (n : Nat) : ∀ (f : Nat) (b : List Int), (refgen f b n).Nodup := by
  intro f
  induction f with
  | zero => intro b; simp [refgen]
  | succ f ih =>
    intro b
    have hT : ∀ k, (refTo f b n k).Nodup := by
      intro k
      induction k with
      | zero => simp [refTo]
      | succ k ihk =>
        rw [refTo_succ]
        split
        · simpa using ihk
        · refine List.nodup_append.2 ⟨ihk, ih _, fun p hp q hq e => ?_⟩
          subst e
          simp only [refTo, List.mem_flatMap, List.mem_range] at hp
          obtain ⟨x, hx, hp⟩ := hp
          split at hp
          · simp at hp
          · obtain ⟨t, e1, _⟩ := (refgen_mem n f _ _).1 hp
            obtain ⟨t', e2, _⟩ := (refgen_mem n f _ _).1 hq
            rw [e1] at e2
            simp at e2
            omega
    exact hT n
end Go.Proofs.Ytmkleegfbapakaa
