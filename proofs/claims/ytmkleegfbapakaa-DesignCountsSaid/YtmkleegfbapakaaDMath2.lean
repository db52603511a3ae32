import Derived.Test.YtmkleegfbapakaaDMath
namespace Go.Proofs.Ytmkleegfbapakaa
open D28

theorem good_of_check {Jn : Nat} {S N : Int} {bad : List (List Bool)} {ps : List (List Int)} (h : checkE Jn S N bad ps = 0) : Good ps Jn S ∧ ps.length = bad.length ∧ 1 ≤ Jn ∧ 1 ≤ S := by
  obtain ⟨h1, _, h3, _, h5, _, h7⟩ := rows_ok h
  exact ⟨h7, h1, by omega, h5⟩

section
variable {ps : List (List Int)} {J : Nat} {S : Int}
theorem mem_loads {x : Int} : x ∈ dLoads ps J ↔ ∃ j, j < J ∧ (dLoad ps (j : Int) : Int) = x := by simp [dLoads]
theorem lo_le_load (j : Nat) (hj : j < J) : dLo ps.length (dLoads ps J) ≤ dLoad ps (j : Int) := (lo_spec _ _).2.1 _ (mem_loads.2 ⟨j, hj, rfl⟩)
theorem load_le_hi (j : Nat) (hj : j < J) : (dLoad ps (j : Int) : Int) ≤ dHi 0 (dLoads ps J) := (hi_spec _ _).2.1 _ (mem_loads.2 ⟨j, hj, rfl⟩)
theorem lo_attained (hJ : 1 ≤ J) : ∃ j, j < J ∧ (dLoad ps (j : Int) : Int) = dLo ps.length (dLoads ps J) := by
  rcases (lo_spec ps.length (dLoads ps J)).2.2 with h | h
  · have h1 := lo_le_load (ps := ps) (J := J) 0 (by omega)
    have h2 := load_le ps ((0 : Nat) : Int)
    exact ⟨0, by omega, by omega⟩
  · exact mem_loads.1 h
theorem hi_attained (hJ : 1 ≤ J) : ∃ j, j < J ∧ (dLoad ps (j : Int) : Int) = dHi 0 (dLoads ps J) := by
  rcases (hi_spec 0 (dLoads ps J)).2.2 with h | h
  · have h1 := load_le_hi (ps := ps) (J := J) 0 (by omega)
    exact ⟨0, by omega, by omega⟩
  · exact mem_loads.1 h
theorem sum_loads (h : Good ps J S) : sm J (fun j => (dLoad ps (j : Int) : Int)) = ps.length * S := by
  have := loads_sum h ps.length (Nat.le_refl _)
  simpa using this
theorem sum_twos (h : Good ps J S) : sm J (fun j => pairsI (dLoad ps (j : Int))) = (dCommons ps).sum := by
  have := twos_sum h ps.length (Nat.le_refl _)
  rw [commonsTo_all] at this
  simpa using this
theorem commons_length (ps : List (List Int)) : ∀ i, ((commonsTo ps i 0).length : Int) = pairsI i := by
  intro i
  induction i with
  | zero => simp [commonsTo, pairsI]
  | succ i ih =>
    rw [← commonsTo_next]
    have : (commonsTo ps i i).length = (commonsTo ps i 0).length + i := by simp [commonsTo]
    rw [this, Int.natCast_add, ih, Int.natCast_add, Int.natCast_one, pairsI_succ]
theorem sum_ge {P : Int} : ∀ (l : List Int), (∀ x ∈ l, P ≤ x) → P * l.length ≤ l.sum
  | [], _ => by simp
  | x :: l, h => by
    have ih := sum_ge l (fun y hy => h y (by simp [hy]))
    have := h x (by simp)
    rw [List.length_cons, List.sum_cons, Int.natCast_add, Int.mul_add]
    simp; omega
theorem sm_lt {n : Nat} {f : Nat → Int} (h : ∀ i, i < n → f i ≤ 1) {j : Nat} (hj : j < n) (h0 : f j = 0) : sm n f ≤ n - 1 := by
  induction n with
  | zero => omega
  | succ n ih =>
    simp only [sm]
    have hn := h n (by omega)
    by_cases e : j = n
    · subst e
      have := sm_le (n := j) (f := f) (g := fun _ => 1) (fun i hi => h i (by omega))
      rw [sm_const] at this
      omega
    · have := ih (fun i hi => h i (by omega)) (by omega)
      omega
theorem sm_ge_one {n : Nat} {f : Nat → Int} (h : ∀ i, i < n → 0 ≤ f i) {j : Nat} (hj : j < n) : f j ≤ sm n f := by
  induction n with
  | zero => omega
  | succ n ih =>
    simp only [sm]
    have h0 : 0 ≤ sm n f := by
      have := sm_le (n := n) (f := fun _ => 0) (g := f) (fun i hi => h i (by omega))
      rwa [sm_zero] at this
    have hn := h n (by omega)
    by_cases e : j = n
    · subst e; omega
    · have := ih (fun i hi => h i (by omega)) (by omega)
      omega
theorem commons_le (h : Good ps J S) {x : Int} (hx : x ∈ dCommons ps) : 0 ≤ x ∧ x ≤ S := by
  unfold dCommons at hx
  simp only [List.mem_flatMap, List.mem_map, List.mem_range] at hx
  obtain ⟨i, hi, k, _, rfl⟩ := hx
  have := common_le (ps.getD i []) (ps.getD k [])
  have := (h i hi).1
  omega
theorem mem_commons {x : Int} : x ∈ dCommons ps ↔ ∃ i, i < ps.length ∧ ∃ k, k < i ∧ (dCommon (ps.getD i []) (ps.getD k []) : Int) = x := by
  unfold dCommons
  simp only [List.mem_flatMap, List.mem_map, List.mem_range]

/-- Fewer than two entries: no pair. -/
theorem commons_few (h : ps.length < 2) : dCommons ps = [] := by
  rw [List.eq_nil_iff_forall_not_mem]
  intro x hx
  obtain ⟨i, hi, k, hk, _⟩ := mem_commons.1 hx
  omega
theorem pair_few (h : ps.length < 2) : dLo S (dCommons ps) = S := by rw [commons_few h]; rfl
theorem pair_attained (h : Good ps J S) (h2 : 2 ≤ ps.length) : ∃ i, i < ps.length ∧ ∃ k, k < i ∧ (dCommon (ps.getD i []) (ps.getD k []) : Int) = dLo S (dCommons ps) := by
  rcases (lo_spec S (dCommons ps)).2.2 with e | e
  · have hm : (dCommon (ps.getD 1 []) (ps.getD 0 []) : Int) ∈ dCommons ps := mem_commons.2 ⟨1, by omega, 0, by omega, rfl⟩
    have h1 := (commons_le h hm).2
    have h3 := (lo_spec S (dCommons ps)).2.1 _ hm
    exact ⟨1, by omega, 0, by omega, by omega⟩
  · exact mem_commons.1 e

/-- **No assignment is better than the bound.** -/
theorem best_law (h : Good ps J S) (hJ : 1 ≤ J) :
    dLo ps.length (dLoads ps J) ≤ bLeast J S ps.length ∧ bMost J S ps.length ≤ dHi 0 (dLoads ps J) ∧
    (dHi 0 (dLoads ps J) - dLo ps.length (dLoads ps J) ≤ 1 → dLo S (dCommons ps) ≤ bPair J S ps.length ∧ dLo ps.length (dLoads ps J) = bLeast J S ps.length ∧ dHi 0 (dLoads ps J) = bMost J S ps.length) := by
  have hs := sum_loads h
  have ht := sum_twos h
  have hL : ∀ j, j < J → dLo ps.length (dLoads ps J) ≤ dLoad ps (j : Int) := lo_le_load
  have hH : ∀ j, j < J → (dLoad ps (j : Int) : Int) ≤ dHi 0 (dLoads ps J) := load_le_hi
  obtain ⟨jl, hjl, hl⟩ := lo_attained (ps := ps) hJ
  obtain ⟨jh, hjh, hh⟩ := hi_attained (ps := ps) hJ
  have hP1 : dLo S (dCommons ps) ≤ S := (lo_spec _ _).1
  have hP2 := sum_ge (P := dLo S (dCommons ps)) (dCommons ps) ((lo_spec _ _).2.1)
  have hlen : ((dCommons ps).length : Int) = pairsI ps.length := by rw [← commonsTo_all]; exact commons_length ps ps.length
  rw [hlen, ← ht] at hP2
  generalize dLo ps.length (dLoads ps J) = L at *
  generalize dHi 0 (dLoads ps J) = H at *
  generalize dLo S (dCommons ps) = P at *
  have s1 : (J : Int) * L ≤ ps.length * S := by
    rw [← hs, ← sm_const]; exact sm_le hL
  have s2 : (ps.length : Int) * S ≤ J * H := by
    rw [← hs, ← sm_const]; exact sm_le hH
  have hJ' : (0 : Int) < J := by omega
  have hq := Int.mul_ediv_add_emod (ps.length * S) J
  have hr0 := Int.emod_nonneg (ps.length * S) (b := (J : Int)) (by omega)
  have hr1 := Int.emod_lt_of_pos (ps.length * S) hJ'
  generalize hqe : (ps.length : Int) * S / J = q at *
  generalize hre : (ps.length : Int) * S % J = r at *
  have hLq : L ≤ q := by
    have h0 : (J : Int) * L < J * (q + 1) := by rw [Int.mul_add]; omega
    have := Int.lt_of_mul_lt_mul_left h0 (by omega)
    omega
  have hHq : q ≤ H := by
    have h0 : (J : Int) * q ≤ J * H := by omega
    exact Int.le_of_mul_le_mul_left h0 hJ'
  have hHr : 0 < r → q < H := fun hr => by
    have h0 : (J : Int) * q < J * H := by omega
    exact Int.lt_of_mul_lt_mul_left h0 (by omega)
  have eM : bMost J S ps.length = q + if 1 < r then 1 else r := by unfold bMost; rw [hqe, hre]
  have eL : bLeast J S ps.length = q := by unfold bLeast; rw [hqe]
  rw [eM, eL]
  refine ⟨hLq, ?_, fun hd => ?_⟩
  · split
    · have := hHr (by omega); omega
    · by_cases hr : 0 < r
      · have := hHr hr; omega
      · omega
  · obtain ⟨f, hf⟩ : ∃ f : Nat → Int, ∀ j : Nat, (dLoad ps (j : Int) : Int) = L + f j := ⟨fun j => dLoad ps (j : Int) - L, fun j => by dsimp only; omega⟩
    have f0 : ∀ j, j < J → 0 ≤ f j := fun j hj => by have := hL j hj; rw [hf] at this; omega
    have f1 : ∀ j, j < J → f j ≤ 1 := fun j hj => by have := hH j hj; rw [hf] at this; omega
    have fl : f jl = 0 := by rw [hf] at hl; omega
    have fh : L + f jh = H := by rw [hf] at hh; omega
    have c1 := sm_lt f1 hjl fl
    have c0 : 0 ≤ sm J f := by have := sm_ge_one f0 hjl; omega
    have ch := sm_ge_one f0 hjh
    have hsum : (ps.length : Int) * S = J * L + sm J f := by
      rw [← hs, sm_congr (g := fun j => L + f j) (fun j _ => hf j), sm_add, sm_const]
    have hqL : q = L := by
      have a1 : (J : Int) * q < J * (L + 1) := by rw [Int.mul_add]; omega
      have := Int.lt_of_mul_lt_mul_left a1 (by omega)
      omega
    have hrc : r = sm J f := by rw [hqL] at hq; omega
    refine ⟨?_, hqL.symm, ?_⟩
    · unfold bPair
      rw [hqe, hre]
      split
      · rename_i hn
        have hpn : 0 < pairsI ps.length := by
          unfold pairsI
          have : (2 : Int) ≤ ps.length * (ps.length - 1) := by
            have := Int.mul_le_mul (a := 2) (b := 1) (c := (ps.length : Int)) (d := ps.length - 1) (by omega) (by omega) (by omega) (by omega)
            simpa using this
          omega
        have hX : sm J (fun j => pairsI (dLoad ps (j : Int))) = r * pairsI (q + 1) + (J - r) * pairsI q := by
          rw [sm_congr (g := fun j => pairsI q + q * f j) (fun j hj => by
            rw [hf, ← hqL]
            have a0 := f0 j hj
            have a1 := f1 j hj
            have : f j = 0 ∨ f j = 1 := by omega
            rcases this with e | e
            · rw [e]; simp
            · rw [e, pairsI_succ]; simp), sm_add, sm_const, pairsI_succ, hrc]
          have hm : ∀ n, sm n (fun j => q * f j) = q * sm n f := by
            intro n
            induction n with
            | zero => simp [sm]
            | succ n ih => simp only [sm]; rw [ih, Int.mul_add]
          rw [hm]
          generalize sm J f = c
          grind
        rw [hX] at hP2
        have hdiv := Int.le_ediv_of_mul_le hpn hP2
        split <;> omega
      · exact hP1
    · split
      · have := hHr (by omega); omega
      · by_cases hr : 0 < r
        · have := hHr hr; omega
        · have : f jh = 0 := by have := f0 jh hjh; omega
          omega

/-! The slots. -/
theorem cnt_le_load (ps : List (List Int)) (j : Int) (m k : Nat) : dCnt ps j m k ≤ dLoad ps j := by
  suffices ∀ i, i ≤ ps.length → cntTo ps j m k i ≤ dLoad (ps.take i) j by
    have := this ps.length (Nat.le_refl _)
    rw [cntTo_eq]; simpa using this
  intro i
  induction i with
  | zero => intro _; simp [cntTo, dLoad]
  | succ i ih =>
    intro hi
    have := ih (by omega)
    rw [cntTo_succ, load_succ (by omega)]
    split <;> split <;> simp_all <;> omega
theorem mem_cnts {m : Nat} {j x : Int} : x ∈ dCnts ps j m ↔ ∃ k, k < m ∧ (dCnt ps j m k : Int) = x := by simp [dCnts]
theorem slot_le_load (j : Int) (m : Nat) : dSlot ps j m ≤ dLoad ps j := by
  unfold dSlot
  have h1 : 0 ≤ dLo ps.length (dCnts ps j m) := by
    rcases (lo_spec (ps.length : Int) (dCnts ps j m)).2.2 with e | e
    · omega
    · obtain ⟨k, _, e⟩ := mem_cnts.1 e; omega
  rcases (hi_spec 0 (dCnts ps j m)).2.2 with e | e
  · omega
  · obtain ⟨k, _, e⟩ := mem_cnts.1 e
    have := cnt_le_load ps j m k
    omega
theorem slot_one (j : Int) : dSlot ps j 1 = 0 := by
  have h : ((dCnt ps j 1 0 : Nat) : Int) ≤ ps.length := by have := dCnt_le ps j 1 0; omega
  unfold dSlot dCnts
  simp only [List.range_one, List.map_cons, List.map_nil, dHi, dLo, List.foldl_cons, List.foldl_nil]
  omega
theorem cnt_one (ps : List (List Int)) (j : Int) (m k : Nat) (hm : ps.length ≤ m) (hk : k < m) : dCnt ps j m k ≤ 1 := by
  suffices ∀ i, i ≤ ps.length → cntTo ps j m k i ≤ if k < i then 1 else 0 by
    have := this ps.length (Nat.le_refl _)
    rw [cntTo_eq]; split at this <;> omega
  intro i
  induction i with
  | zero => intro _; simp [cntTo]
  | succ i ih =>
    intro hi
    have h0 := ih (by omega)
    rw [cntTo_succ]
    by_cases e : i = k
    · subst e
      rw [if_neg (Nat.lt_irrefl _)] at h0
      rw [if_pos (Nat.lt_succ_self _)]
      split <;> omega
    · rw [if_neg (fun h => e (by rw [Nat.mod_eq_of_lt (by omega)] at h; exact h.1))]
      split at h0 <;> split <;> omega
theorem slot_many (j : Int) (m : Nat) (hm : ps.length ≤ m) : dSlot ps j m ≤ 1 := by
  unfold dSlot
  have h1 : 0 ≤ dLo ps.length (dCnts ps j m) := by
    rcases (lo_spec (ps.length : Int) (dCnts ps j m)).2.2 with e | e
    · omega
    · obtain ⟨k, _, e⟩ := mem_cnts.1 e; omega
  rcases (hi_spec 0 (dCnts ps j m)).2.2 with e | e
  · omega
  · obtain ⟨k, hk, e⟩ := mem_cnts.1 e
    have := cnt_one ps j m k hm hk
    omega
theorem slotMax_spec (m : Nat) : 0 ≤ dSlotMax ps J m ∧ ∀ x : Int, 0 ≤ x → (∀ j : Nat, j < J → dSlot ps (j : Int) m ≤ x) → dSlotMax ps J m ≤ x := by
  unfold dSlotMax
  obtain ⟨h1, _, h3⟩ := hi_spec 0 ((List.range J).map fun (j : Nat) => dSlot ps (j : Int) m)
  refine ⟨h1, fun x hx h => ?_⟩
  rcases h3 with e | e
  · omega
  · obtain ⟨j, hj, e⟩ := List.mem_map.1 e
    rw [← e]; exact h j (List.mem_range.1 hj)
theorem slot_law (m : Nat) : 0 ≤ dSlotMax ps J m ∧ dSlotMax ps J m ≤ dHi 0 (dLoads ps J) ∧ (m = 1 → dSlotMax ps J m = 0) ∧ (ps.length ≤ m → dSlotMax ps J m ≤ 1) := by
  obtain ⟨h1, h2⟩ := slotMax_spec (ps := ps) (J := J) m
  refine ⟨h1, h2 _ (hi_spec _ _).1 fun j hj => ?_, fun hm => ?_, fun hm => h2 1 (by omega) fun j _ => slot_many _ m hm⟩
  · have := slot_le_load (ps := ps) (j : Int) m
    have := load_le_hi (ps := ps) (J := J) j hj
    omega
  · subst hm
    have := h2 0 (by omega) (fun j _ => by rw [slot_one]; omega)
    omega
end
end Go.Proofs.Ytmkleegfbapakaa
