import Derived.Test.YtmkleegfbapakaaEMatM
namespace Go.Proofs.Ytmkleegfbapakaa
open Go.RowKit Go BigFrame Go.Shelf
set_option maxRecDepth 100000

theorem ps_ok (l m p : List Int) : ∀ k : Nat, decide ((k : Int) ≤ psum eqP l m p k) = okF l m p 0 k := by
  intro k
  induction k with
  | zero => rfl
  | succ k ih =>
    have h := eqP_ps l m p k
    have e : okF l m p 0 (k + 1) = (okF l m p 0 k && decide (l.getD k 0 = m.getD (p.getD k 0).toNat 0)) := by
      unfold okF
      rw [List.range_succ, List.all_append]
      simp
    rw [e, ← ih, psum_succ]
    by_cases h1 : l.getD k 0 = m.getD (p.getD k 0).toNat 0
    · rw [show eqP (l.getD k 0) (m.getD (p.getD k 0).toNat 0) = 1 from if_pos h1, decide_eq_true h1, Bool.and_true]
      refine decide_eq_decide.2 ?_
      rw [Int.natCast_add]
      omega
    · rw [show eqP (l.getD k 0) (m.getD (p.getD k 0).toNat 0) = 0 from if_neg h1, decide_eq_false h1, Bool.and_false]
      refine decide_eq_false ?_
      rw [Int.natCast_add]
      omega
theorem at2_iota (m : List Int) : at2 m (iota m.length) = m := by
  refine list_eq (by simp [at2, iota]) fun j hj => ?_
  simp only [at2, iota, List.length_map, List.length_range] at hj
  simp [at2, iota, List.getD, hj]
theorem cntM_whole (l m : List Int) (hl : l.length = m.length) : cntG eqP l m (l.length : Int) = if l.isPerm m then mulF l else 0 := by
  have h := match_count l m m.length 0 (iota m.length) (by rw [iota_len]; omega) (by rw [iota_len]; exact hl)
  rw [List.drop_zero, List.drop_zero, at2_iota] at h
  unfold cntG cntL
  rw [hl, ← h]
  exact List.countP_congr fun p _ => by rw [ps_ok l m p m.length]

theorem mulF_filter (x : Int) : ∀ l : List Int, mulF l = fact (l.count x) * mulF (l.filter fun y => y != x)
  | [] => rfl
  | y :: l => by
    have ih := mulF_filter x l
    by_cases h : y = x
    · subst h
      rw [mulF, List.count_cons_self, List.filter_cons, if_neg (by simp), fact, ih, Nat.mul_assoc]
    · have h2 : (y != x) = true := by simpa using h
      have hc : (l.filter fun y => y != x).count y = l.count y := List.count_filter (p := fun y => y != x) h2
      rw [mulF, List.count_cons_of_ne h, List.filter_cons, if_pos h2, mulF, hc, ih]
      rw [← Nat.mul_assoc, Nat.mul_comm (l.count y + 1), Nat.mul_assoc]
theorem mulF_pos : ∀ l : List Int, 1 ≤ mulF l
  | [] => Nat.le_refl _
  | x :: l => Nat.mul_pos (by omega) (mulF_pos l)
theorem mulF_le : ∀ l : List Int, mulF l ≤ fact l.length
  | [] => Nat.le_refl _
  | x :: l => Nat.mul_le_mul (by have := List.count_le_length (a := x) (l := l); simp; omega) (mulF_le l)
/-- The product over the first places of each value among the first k. -/
def prodF (l : List Int) : Nat → Nat
  | 0 => 1
  | k + 1 => if (l.take k).count (l.getD k 0) = 0 then prodF l k * fact (l.count (l.getD k 0)) else prodF l k
theorem prodF_inv (l : List Int) : ∀ k, k ≤ l.length → prodF l k * mulF (l.filter fun y => !(l.take k).contains y) = mulF l := by
  intro k
  induction k with
  | zero =>
    intro _
    have : l.filter (fun y => !(l.take 0).contains y) = l := List.filter_eq_self.2 (by simp)
    rw [this, prodF, Nat.one_mul]
  | succ k ih =>
    intro hk
    have ih := ih (by omega)
    obtain ⟨x, hx⟩ : ∃ x, l.getD k 0 = x := ⟨_, rfl⟩
    have ht : l.take (k + 1) = l.take k ++ [x] := by rw [← hx, List.take_add_one, List.getElem?_eq_getElem (by omega)]; simp [List.getD, show k < l.length by omega]
    have hf : (l.filter fun y => !(l.take (k + 1)).contains y) = (l.filter fun y => !(l.take k).contains y).filter fun y => y != x := by
      rw [List.filter_filter, ht]
      refine List.filter_congr fun y _ => ?_
      rw [Bool.eq_iff_iff]
      simp
      constructor
      · rintro ⟨a, b⟩; exact ⟨b, a⟩
      · rintro ⟨a, b⟩; exact ⟨b, a⟩
    rw [hf]
    simp only [prodF, hx]
    by_cases h : (l.take k).count x = 0
    · rw [if_pos h]
      have hm : ¬ x ∈ l.take k := fun hm => by have := List.count_pos_iff.2 hm; omega
      have hc : (l.filter fun y => !(l.take k).contains y).count x = l.count x := List.count_filter (by simpa using hm)
      have := mulF_filter x (l.filter fun y => !(l.take k).contains y)
      rw [hc] at this
      rw [Nat.mul_assoc, ← this, ih]
    · rw [if_neg h]
      have hm : x ∈ l.take k := List.count_pos_iff.1 (by omega)
      have : ((l.filter fun y => !(l.take k).contains y).filter fun y => y != x) = l.filter fun y => !(l.take k).contains y := by
        refine List.filter_eq_self.2 fun y hy => ?_
        have := (List.mem_filter.1 hy).2
        simp only [bne_iff_ne]
        rintro rfl
        simp [hm] at this
      rw [this, ih]
theorem prodF_all (l : List Int) : prodF l l.length = mulF l := by
  have h := prodF_inv l l.length (Nat.le_refl _)
  rw [List.take_length] at h
  have : (l.filter fun y => !l.contains y) = [] := List.filter_eq_nil_iff.2 (fun y hy => by simp [hy])
  rw [this] at h
  simpa [mulF] using h
theorem prodF_le (l : List Int) {k : Nat} (h : k ≤ l.length) : prodF l k ≤ fact l.length := by
  have h1 := prodF_inv l k h
  have h2 := mulF_pos (l.filter fun y => !(l.take k).contains y)
  have h3 := mulF_le l
  have h4 : prodF l k * 1 ≤ prodF l k * mulF (l.filter fun y => !(l.take k).contains y) := Nat.mul_le_mul_left _ h2
  omega
/-- All of the first k values are as often in both. -/
def evenF (l m : List Int) (k : Nat) : Bool := (List.range k).all fun j => decide (l.count (l.getD j 0) = m.count (l.getD j 0))
theorem evenF_succ (l m : List Int) (k : Nat) : evenF l m (k + 1) = (evenF l m k && decide (l.count (l.getD k 0) = m.count (l.getD k 0))) := by simp [evenF, List.range_succ]
theorem perm_even : ∀ (l m : List Int), l.length = m.length → (∀ x ∈ l, l.count x = m.count x) → l.Perm m
  | [], m, h, _ => by
    have : m = [] := List.length_eq_zero_iff.1 (by simpa using h.symm)
    rw [this]
  | a :: l, m, h, hc => by
    have h1 : a ∈ m := List.count_pos_iff.1 (by rw [← hc a (by simp), List.count_cons_self]; omega)
    have h2 := List.length_erase_of_mem h1
    have h3 := List.perm_cons_erase h1
    refine ((perm_even l (m.erase a) (by simp only [List.length_cons] at h; omega) fun x hx => ?_).cons a).trans h3.symm
    have h4 := hc x (by simp [hx])
    rw [h3.count_eq, List.count_cons, List.count_cons] at h4
    omega
theorem evenF_all (l m : List Int) (h : l.length = m.length) : evenF l m l.length = l.isPerm m := by
  rw [Bool.eq_iff_iff, List.isPerm_iff]
  constructor
  · intro he
    refine perm_even l m h fun x hx => ?_
    obtain ⟨j, hj, rfl⟩ := List.getElem_of_mem hx
    have := List.all_eq_true.1 he j (List.mem_range.2 hj)
    simpa [List.getD, hj] using this
  · intro hp
    refine List.all_eq_true.2 fun j _ => ?_
    simp [hp.count_eq]
/-- What the law wants, behind k values. -/
def wantF (l m : List Int) (k : Nat) : Nat := if evenF l m k then prodF l k else 0
theorem want_all (l m : List Int) (h : l.length = m.length) : wantF l m l.length = cntG eqP l m (l.length : Int) := by
  rw [cntM_whole l m h]
  unfold wantF
  rw [evenF_all l m h, prodF_all]
end Go.Proofs.Ytmkleegfbapakaa
