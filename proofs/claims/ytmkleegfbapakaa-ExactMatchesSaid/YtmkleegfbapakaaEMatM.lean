import Derived.Test.YtmkleegfbapakaaEOrdM
namespace Go.Proofs.Ytmkleegfbapakaa
open Go.RowKit Go BigFrame Go.Shelf
set_option maxRecDepth 100000

theorem eqP_flip : (fun x y => eqP y x) = eqP := by
  funext x y
  unfold eqP
  by_cases h : x = y
  · rw [if_pos h, if_pos h.symm]
  · rw [if_neg h, if_neg (fun e => h e.symm)]
theorem eqP01 (x y : Int) : 0 ≤ eqP x y ∧ eqP x y ≤ 1 := by unfold eqP; split <;> omega
theorem eqP_ps (l m p : List Int) (k : Nat) : 0 ≤ psum eqP l m p k ∧ psum eqP l m p k ≤ k := by
  induction k with
  | zero => simp [psum, sm]
  | succ k ih => rw [psum_succ]; have := eqP01 (l.getD k 0) (m.getD (p.getD k 0).toNat 0); omega
theorem cntM_all (l m : List Int) {s : Int} (h : s ≤ 0) : cntG eqP l m s = fact l.length := by
  unfold cntG cntL
  rw [List.countP_eq_length.2 (fun p _ => by have := eqP_ps l m p l.length; simp; omega), gen_length]
theorem cntM_none (l m : List Int) {s : Int} (h : (l.length : Int) < s) : cntG eqP l m s = 0 := by
  unfold cntG cntL
  exact List.countP_eq_zero.2 (fun p _ => by have := eqP_ps l m p l.length; simp; omega)

/-! How many orders match at all indices. -/
/-- The product of the factorials of how often each value is there. -/
def mulF : List Int → Nat
  | [] => 1
  | x :: l => (l.count x + 1) * mulF l
/-- The orders of the numbers from i on that match: the list x stands for what is left. -/
theorem gen_mem_at {f i : Nat} {x : List Int} (hx : i + f = x.length) {p : List Int} (hp : p ∈ gen f i x) {j : Nat} (hj : j < i) : p.getD j 0 = x.getD j 0 := (gen_perm f i x hx p hp).2 j hj

/-- From i on all is matched. -/
def okF (l m p : List Int) (i f : Nat) : Bool := (List.range f).all fun d => decide (l.getD (i + d) 0 = m.getD (p.getD (i + d) 0).toNat 0)
theorem okF_succ (l m p : List Int) (i f : Nat) : okF l m p i (f + 1) = (decide (l.getD i 0 = m.getD (p.getD i 0).toNat 0) && okF l m p (i + 1) f) := by
  unfold okF
  rw [List.range_succ_eq_map, List.all_cons, List.all_map]
  congr 1
  congr 1
  funext d
  simp only [Function.comp]
  rw [show i + Nat.succ d = i + 1 + d by omega]
/-- The values of the second list at the numbers of a list. -/
def at2 (m x : List Int) : List Int := x.map fun v => m.getD v.toNat 0
theorem drop_getD (x : List Int) {i : Nat} (hi : i < x.length) : x.drop i = x.getD i 0 :: x.drop (i + 1) := by
  rw [List.drop_eq_getElem_cons hi]; simp [List.getD, hi]
theorem swp_drop {x : List Int} {i d : Nat} (hd : i + d < x.length) : (x.getD (i + d) 0 :: (swp x i (i + d)).drop (i + 1)).Perm (x.drop i) := by
  have h1 : (swp x i (i + d)).Perm x := swp_mem (by omega) hd
  have h2 : (swp x i (i + d)).take i = x.take i := by
    refine List.ext_getElem (by simp [swp_length]) fun j h1 h2 => ?_
    simp only [List.length_take, swp_length] at h1
    have e : ∀ (l : List Int) (h : j < l.length), l[j] = l.getD j 0 := fun l h => by simp [List.getD, h]
    rw [List.getElem_take, List.getElem_take, e _ (by rw [swp_length]; omega), e _ (by omega), swp_getD x (by omega) hd, if_neg (by omega), if_neg (by omega)]
  have h3 : (swp x i (i + d)).drop i = x.getD (i + d) 0 :: (swp x i (i + d)).drop (i + 1) := by
    rw [drop_getD _ (by rw [swp_length]; omega), swp_getD x (by omega) hd]
    by_cases h : d = 0
    · subst h; simp
    · rw [if_neg (by omega), if_pos rfl]
  rw [← h3]
  have h4 : (x.take i ++ (swp x i (i + d)).drop i).Perm (x.take i ++ x.drop i) := by
    rw [List.take_append_drop, ← h2, List.take_append_drop]; exact h1
  exact (List.perm_append_left_iff _).1 h4
theorem mulF_step (v : Int) (l : List Int) : mulF (v :: l) = (l.count v + 1) * mulF l := rfl
theorem countP_flatMap {α β : Type} (q : β → Bool) (f : α → List β) : ∀ l : List α, (l.flatMap f).countP q = (l.map fun a => (f a).countP q).sum
  | [] => rfl
  | a :: l => by rw [List.flatMap_cons, List.countP_append, countP_flatMap q f l]; simp
/-- How many of the orders that the program makes from i on match there. -/
theorem match_count (l m : List Int) : ∀ (f i : Nat) (x : List Int), i + f = x.length → l.length = x.length →
    (gen f i x).countP (fun p => okF l m p i f) = if (l.drop i).isPerm (at2 m (x.drop i)) then mulF (l.drop i) else 0 := by
  intro f
  induction f with
  | zero =>
    intro i x hx hl
    have e1 : l.drop i = [] := List.drop_eq_nil_of_le (by omega)
    have e2 : x.drop i = [] := List.drop_eq_nil_of_le (by omega)
    rw [e1, e2]
    have e3 : ([] : List Int).isPerm (at2 m []) = true := rfl
    rw [if_pos e3]
    simp [gen, okF, mulF]
  | succ f ih =>
    intro i x hx hl
    have hi : i < l.length := by omega
    have hld : l.drop i = l.getD i 0 :: l.drop (i + 1) := drop_getD l hi
    obtain ⟨v, hv⟩ : ∃ v, l.getD i 0 = v := ⟨_, rfl⟩
    obtain ⟨t, ht⟩ : ∃ t, l.drop (i + 1) = t := ⟨_, rfl⟩
    rw [hld, hv, ht]
    have hg : gen (f + 1) i x = (List.range (f + 1)).flatMap fun d => gen f (i + 1) (swp x i (i + d)) := rfl
    rw [hg, countP_flatMap]
    -- each start
    have hd : ∀ d, d ∈ List.range (f + 1) → (gen f (i + 1) (swp x i (i + d))).countP (fun p => okF l m p i (f + 1)) = if v = m.getD (x.getD (i + d) 0).toNat 0 ∧ (v :: t).isPerm (at2 m (x.drop i)) = true then mulF t else 0 := by
      intro d hd
      have hd : d < f + 1 := List.mem_range.1 hd
      have hsl : (swp x i (i + d)).length = x.length := swp_length _ _ _
      have e1 : ∀ p ∈ gen f (i + 1) (swp x i (i + d)), okF l m p i (f + 1) = (decide (v = m.getD (x.getD (i + d) 0).toNat 0) && okF l m p (i + 1) f) := fun p hp => by
        rw [okF_succ, hv, gen_at f i x (by omega) d hd p hp]
      have e2 : (gen f (i + 1) (swp x i (i + d))).countP (fun p => okF l m p i (f + 1)) = (gen f (i + 1) (swp x i (i + d))).countP (fun p => decide (v = m.getD (x.getD (i + d) 0).toNat 0) && okF l m p (i + 1) f) :=
        List.countP_congr fun p hp => by rw [e1 p hp]
      rw [e2]
      by_cases hve : v = m.getD (x.getD (i + d) 0).toNat 0
      · have e3 : (gen f (i + 1) (swp x i (i + d))).countP (fun p => decide (v = m.getD (x.getD (i + d) 0).toNat 0) && okF l m p (i + 1) f) = (gen f (i + 1) (swp x i (i + d))).countP (fun p => okF l m p (i + 1) f) :=
          List.countP_congr fun p hp => by rw [decide_eq_true hve]; simp
        rw [e3, ih (i + 1) _ (by omega) (by omega), ht]
        have hp : (at2 m (x.drop i)).Perm (v :: at2 m ((swp x i (i + d)).drop (i + 1))) := by
          have := (swp_drop (x := x) (i := i) (d := d) (by omega)).map fun v => m.getD v.toNat 0
          rw [List.map_cons, ← hve] at this
          exact this.symm
        have hiff : t.isPerm (at2 m ((swp x i (i + d)).drop (i + 1))) = true ↔ (v :: t).isPerm (at2 m (x.drop i)) = true := by
          rw [List.isPerm_iff, List.isPerm_iff]
          constructor
          · intro h; exact (h.cons v).trans hp.symm
          · intro h; exact (List.perm_cons v).1 (h.trans hp)
        by_cases hc : (v :: t).isPerm (at2 m (x.drop i)) = true
        · rw [if_pos (hiff.2 hc), if_pos ⟨hve, hc⟩]
        · rw [if_neg (fun h => hc (hiff.1 h)), if_neg (fun h => hc h.2)]
      · rw [if_neg (fun h => hve h.1)]
        exact List.countP_eq_zero.2 fun p _ => by rw [decide_eq_false hve]; simp
    rw [List.map_congr_left hd]
    by_cases hc : (v :: t).isPerm (at2 m (x.drop i)) = true
    · rw [if_pos hc]
      have hperm := List.isPerm_iff.1 hc
      have h2 : ((List.range (f + 1)).map fun d => if v = m.getD (x.getD (i + d) 0).toNat 0 ∧ (v :: t).isPerm (at2 m (x.drop i)) = true then mulF t else 0).sum = ((at2 m (x.drop i)).count v) * mulF t := by
        have h3 : ∀ (g : Nat → Int) (k : Nat), ((List.range k).map fun d => if v = g d ∧ (v :: t).isPerm (at2 m (x.drop i)) = true then mulF t else 0).sum = (((List.range k).map g).count v) * mulF t := by
          intro g k
          induction k with
          | zero => simp
          | succ k ihk =>
            rw [List.range_succ, List.map_append, List.sum_append, ihk, List.map_append, List.count_append, Nat.add_mul]
            congr 1
            simp only [List.map_cons, List.map_nil, List.sum_cons, List.sum_nil, List.count_cons, List.count_nil]
            by_cases hg : v = g k
            · rw [if_pos ⟨hg, hc⟩, if_pos (by simp [hg])]; omega
            · rw [if_neg (fun h => hg h.1), if_neg (by simpa using fun e => hg e.symm)]; omega
        have h4 : at2 m (x.drop i) = (List.range (f + 1)).map fun d => m.getD (x.getD (i + d) 0).toNat 0 := by
          refine List.ext_getElem (by simp [at2]; omega) fun j h1 h2 => ?_
          simp only [at2, List.length_map, List.length_drop] at h1
          simp [at2, List.getD, show i + j < x.length by omega]
        rw [h3, ← h4]
      rw [h2, hperm.symm.count_eq, mulF, List.count_cons_self]
    · rw [if_neg hc]
      have : ((List.range (f + 1)).map fun d => if v = m.getD (x.getD (i + d) 0).toNat 0 ∧ (v :: t).isPerm (at2 m (x.drop i)) = true then mulF t else 0) = (List.range (f + 1)).map fun _ => 0 :=
        List.map_congr_left fun d _ => if_neg fun h => hc h.2
      rw [this, List.map_const', List.sum_replicate_nat]
      simp
end Go.Proofs.Ytmkleegfbapakaa
