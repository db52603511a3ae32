import Derived.Test.YtmkleegfbapakaaEPerm3
import Derived.Test.YtmkleegfbapakaaEOrders
namespace Go.Proofs.Ytmkleegfbapakaa
open Go.RowKit Go BigFrame Go.Shelf
set_option maxRecDepth 100000

/-- All the orders of n. -/
def G (n : Nat) : List (List Int) := gen n 0 (iota n)
theorem iota_len (n : Nat) : (iota n).length = n := by simp [iota]
theorem G_nodup (n : Nat) : (G n).Nodup := gen_nodup n 0 _ (by rw [iota_len]; omega) (iota_nodup n)
structure Ord (n : Nat) (p : List Int) : Prop where
  len : p.length = n
  rng : ∀ x ∈ p, 0 ≤ x ∧ x < (n : Int)
  nd : p.Nodup
theorem G_mem {n : Nat} {p : List Int} : p ∈ G n ↔ Ord n p := by
  constructor
  · intro h
    have h := (gen_perm n 0 _ (by rw [iota_len]; omega) p h).1
    exact ⟨h.length_eq.trans (iota_len n), fun x hx => (iota_mem n x).1 (h.mem_iff.1 hx), h.nodup_iff.2 (iota_nodup n)⟩
  · intro h
    exact gen_all n 0 _ _ (by rw [iota_len]; omega) (iota_nodup n) (perm_of_subset _ _ h.nd (fun a ha => (iota_mem n a).2 (h.rng a ha)) (by rw [iota_len, h.len]; exact Nat.le_refl _)) (fun j hj => by omega)
theorem Ord.perm {n : Nat} {p : List Int} (h : Ord n p) : p.Perm (iota n) := perm_of_subset _ _ h.nd (fun a ha => (iota_mem n a).2 (h.rng a ha)) (by rw [iota_len, h.len]; exact Nat.le_refl _)
theorem Ord.at {n : Nat} {p : List Int} (h : Ord n p) {j : Nat} (hj : j < n) : 0 ≤ p.getD j 0 ∧ p.getD j 0 < (n : Int) := by
  refine h.rng _ ?_
  simp only [List.getD, List.getElem?_eq_getElem (show j < p.length by rw [h.len]; exact hj), Option.getD_some]
  exact List.getElem_mem _
theorem nodup_map {α β : Type} {f : α → β} : ∀ {l : List α}, l.Nodup → (∀ a ∈ l, ∀ b ∈ l, f a = f b → a = b) → (l.map f).Nodup
  | [], _, _ => by simp
  | a :: l, h, hf => by
    obtain ⟨h1, h2⟩ := List.nodup_cons.1 h
    rw [List.map_cons, List.nodup_cons]
    refine ⟨fun hm => ?_, nodup_map h2 (fun x hx y hy => hf x (by simp [hx]) y (by simp [hy]))⟩
    obtain ⟨b, hb, e⟩ := List.mem_map.1 hm
    exact h1 (hf b (by simp [hb]) a (by simp) e ▸ hb)
/-- An exchange of orders with themselves does not change a count. -/
theorem count_inv {n : Nat} (σ : List Int → List Int) (h1 : ∀ p, Ord n p → Ord n (σ p)) (h2 : ∀ p, Ord n p → σ (σ p) = p) (q : List Int → Bool) : (G n).countP q = (G n).countP (fun p => q (σ p)) := by
  have hn : ((G n).map σ).Nodup := nodup_map (G_nodup n) (fun a ha b hb e => by rw [← h2 a (G_mem.1 ha), e, h2 b (G_mem.1 hb)])
  have hp : ((G n).map σ).Perm (G n) := perm_of_subset _ _ hn (fun x hx => by
    obtain ⟨p, hp, rfl⟩ := List.mem_map.1 hx
    exact G_mem.2 (h1 p (G_mem.1 hp))) (by simp)
  rw [← hp.countP_eq q, List.countP_map]
  rfl

/-- Where a number stands. -/
def idx : List Int → Int → Nat
  | [], _ => 0
  | x :: p, v => if x = v then 0 else idx p v + 1
theorem idx_mem : ∀ {p : List Int} {v : Int}, v ∈ p → idx p v < p.length ∧ p.getD (idx p v) 0 = v
  | [], _, h => by simp at h
  | x :: p, v, h => by
    unfold idx
    by_cases e : x = v
    · rw [if_pos e]; subst e; simp
    · rw [if_neg e]
      have := idx_mem (p := p) (v := v) (by rcases List.mem_cons.1 h with h | h; exact absurd h.symm e; exact h)
      refine ⟨by simp; omega, ?_⟩
      rw [List.getD_cons_succ]; exact this.2
theorem idx_at : ∀ {p : List Int} {j : Nat}, p.Nodup → j < p.length → idx p (p.getD j 0) = j
  | [], _, _, h => by simp at h
  | x :: p, 0, _, _ => by simp [idx]
  | x :: p, j + 1, hn, h => by
    obtain ⟨h1, h2⟩ := List.nodup_cons.1 hn
    have hj : j < p.length := by simpa using h
    rw [List.getD_cons_succ]
    unfold idx
    have : x ≠ p.getD j 0 := fun e => h1 (by rw [e]; simp only [List.getD, List.getElem?_eq_getElem hj, Option.getD_some]; exact List.getElem_mem _)
    rw [if_neg this, idx_at h2 hj]
def inv (n : Nat) (p : List Int) : List Int := (List.range n).map fun (v : Nat) => ((idx p (v : Int) : Nat) : Int)
theorem inv_at {n : Nat} {p : List Int} {v : Nat} (hv : v < n) : (inv n p).getD v 0 = ((idx p (v : Int) : Nat) : Int) := by simp [inv, List.getD, hv]
theorem Ord.has {n : Nat} {p : List Int} (h : Ord n p) {v : Nat} (hv : v < n) : (v : Int) ∈ p := h.perm.mem_iff.2 ((iota_mem n v).2 ⟨by omega, by omega⟩)
theorem inv_ord {n : Nat} {p : List Int} (h : Ord n p) : Ord n (inv n p) := by
  refine ⟨by simp [inv], fun x hx => ?_, ?_⟩
  · simp only [inv, List.mem_map, List.mem_range] at hx
    obtain ⟨v, hv, rfl⟩ := hx
    have := (idx_mem (h.has hv)).1
    rw [h.len] at this
    omega
  · unfold inv
    refine nodup_map List.nodup_range (fun a ha b hb e => ?_)
    simp only [List.mem_range] at ha hb
    have e1 := (idx_mem (h.has ha)).2
    have e2 := (idx_mem (h.has hb)).2
    have e3 : idx p (a : Int) = idx p (b : Int) := by omega
    rw [e3, e2] at e1
    omega
theorem list_eq {l m : List Int} (h : l.length = m.length) (e : ∀ j, j < l.length → l.getD j 0 = m.getD j 0) : l = m :=
  List.ext_getElem h fun j h1 h2 => by have := e j h1; simpa [List.getD, h1, h2] using this
theorem inv_inv {n : Nat} {p : List Int} (h : Ord n p) : inv n (inv n p) = p := by
  refine list_eq (by rw [(inv_ord (inv_ord h)).len, h.len]) fun v hv => ?_
  rw [(inv_ord (inv_ord h)).len] at hv
  rw [inv_at hv]
  obtain ⟨a, b⟩ := h.at hv
  obtain ⟨j, hj⟩ : ∃ j : Nat, p.getD v 0 = (j : Int) := ⟨(p.getD v 0).toNat, by omega⟩
  have e1 : (inv n p).getD j 0 = (v : Int) := by
    rw [inv_at (by omega), ← hj, idx_at h.nd (by rw [h.len]; exact hv)]
  rw [hj]
  have := idx_at (j := j) (inv_ord h).nd (by rw [(inv_ord h).len]; omega)
  rw [e1] at this
  rw [this]
theorem sum_perm {α : Type} (f : α → Int) {l m : List α} (h : l.Perm m) : (l.map f).sum = (m.map f).sum := by
  induction h with
  | nil => rfl
  | cons x _ ih => simp [ih]
  | swap x y l => simp only [List.map_cons, List.sum_cons]; omega
  | trans _ _ h1 h2 => exact h1.trans h2
theorem sm_list (f : Int → Int) (p : List Int) : ∀ k, k ≤ p.length → sm k (fun i => f (p.getD i 0)) = ((p.take k).map f).sum := by
  intro k
  induction k with
  | zero => intro _; simp [sm]
  | succ k ih =>
    intro hk
    simp only [sm]
    rw [ih (by omega), List.take_add_one, List.getElem?_eq_getElem (by omega), List.map_append, List.sum_append]
    simp only [List.getD, List.getElem?_eq_getElem (show k < p.length by omega), Option.getD_some, Option.toList_some, List.map_cons, List.map_nil, List.sum_cons, List.sum_nil]
    omega
theorem sm_order (f : Int → Int) {n : Nat} {p : List Int} (h : Ord n p) : sm n (fun i => f (p.getD i 0)) = sm n (fun i => f (i : Int)) := by
  have h1 := sm_list f p n (by rw [h.len]; exact Nat.le_refl _)
  have h2 := sm_list f (iota n) n (by rw [iota_len]; exact Nat.le_refl _)
  rw [List.take_of_length_le (by rw [h.len]; exact Nat.le_refl _)] at h1
  rw [List.take_of_length_le (by rw [iota_len]; exact Nat.le_refl _)] at h2
  rw [h1, sum_perm f h.perm, ← h2]
  exact sm_congr fun i hi => by simp [iota, List.getD, hi]
theorem psum_inv (pt : Int → Int → Int) (l m : List Int) {n : Nat} {p : List Int} (h : Ord n p) : psum (fun x y => pt y x) m l (inv n p) n = psum pt l m p n := by
  have h1 := sm_order (fun v => pt (l.getD (idx p v) 0) (m.getD v.toNat 0)) h
  unfold psum
  rw [show sm n (fun i => (fun x y => pt y x) (m.getD i 0) (l.getD ((inv n p).getD i 0).toNat 0)) = sm n (fun i => pt (l.getD (idx p (i : Int)) 0) (m.getD ((i : Nat) : Int).toNat 0)) from sm_congr fun i hi => by
    rw [inv_at hi]; simp]
  rw [← h1]
  exact sm_congr fun i hi => by rw [idx_at h.nd (by rw [h.len]; exact hi)]
/-- The lists may be exchanged. -/
theorem cntG_flip (pt : Int → Int → Int) (l m : List Int) (s : Int) (hl : l.length = m.length) : cntG (fun x y => pt y x) m l s = cntG pt l m s := by
  unfold cntG cntL
  rw [hl]
  have h := count_inv (n := m.length) (inv m.length) (fun p h => inv_ord h) (fun p h => inv_inv h) (fun p => decide (s ≤ psum (fun x y => pt y x) m l p m.length))
  have e : gen m.length 0 (iota m.length) = G m.length := rfl
  rw [e, h]
  refine List.countP_congr fun p hp => ?_
  rw [psum_inv pt l m (G_mem.1 hp)]
def tau (i j v : Int) : Int := if v = i then j else if v = j then i else v
theorem tau_tau (i j v : Int) : tau i j (tau i j v) = v := by
  unfold tau
  by_cases h1 : v = i
  · rw [if_pos h1]; by_cases h2 : j = i
    · rw [if_pos h2, h2, h1]
    · rw [if_neg h2, if_pos rfl, h1]
  · rw [if_neg h1]
    by_cases h2 : v = j
    · rw [if_pos h2, if_pos rfl, h2]
    · rw [if_neg h2, if_neg h1, if_neg h2]
theorem tau_ord {n i j : Nat} (hi : i < n) (hj : j < n) {p : List Int} (h : Ord n p) : Ord n (p.map (tau i j)) := by
  refine ⟨by simp [h.len], fun x hx => ?_, nodup_map h.nd (fun a _ b _ e => by rw [← tau_tau (i : Int) (j : Int) a, e, tau_tau])⟩
  obtain ⟨y, hy, rfl⟩ := List.mem_map.1 hx
  have := h.rng y hy
  unfold tau
  split
  · omega
  · split <;> omega
/-- The elements of the second list may be exchanged. -/
theorem cntG_swp (pt : Int → Int → Int) (l m : List Int) (s : Int) {i j : Nat} (hl : l.length = m.length) (hi : i < m.length) (hj : j < m.length) : cntG pt l (swp m i j) s = cntG pt l m s := by
  unfold cntG cntL
  have h2 : ∀ p : List Int, (p.map (tau i j)).map (tau i j) = p := fun p => by
    rw [List.map_map]
    have : (tau (i : Int) (j : Int) ∘ tau (i : Int) (j : Int)) = id := funext fun x => tau_tau _ _ _
    rw [this, List.map_id]
  have h := count_inv (n := l.length) (fun p => p.map (tau i j)) (fun p h => tau_ord (by omega) (by omega) h) (fun p _ => h2 p) (fun p => decide (s ≤ psum pt l m p l.length))
  have e : gen l.length 0 (iota l.length) = G l.length := rfl
  rw [e, h]
  refine List.countP_congr fun p hp => ?_
  have ho := G_mem.1 hp
  have : psum pt l (swp m i j) p l.length = psum pt l m (p.map (tau i j)) l.length := by
    unfold psum
    refine sm_congr fun k hk => ?_
    have hpk : (p.map (tau i j)).getD k 0 = tau i j (p.getD k 0) := by simp [List.getD, show k < p.length by rw [ho.len]; exact hk]
    obtain ⟨a, b⟩ := ho.at hk
    rw [hpk, swp_getD m hi hj]
    congr 1
    unfold tau
    by_cases h1 : p.getD k 0 = (i : Int)
    · rw [if_pos h1]
      by_cases h2 : (p.getD k 0).toNat = j
      · rw [if_pos h2, show ((j : Nat) : Int).toNat = i by omega]
      · rw [if_neg h2, if_pos (by omega), show ((j : Nat) : Int).toNat = j by omega]
    · rw [if_neg h1]
      by_cases h2 : p.getD k 0 = (j : Int)
      · rw [if_pos h2, if_pos (by omega), show ((i : Nat) : Int).toNat = i by omega]
      · rw [if_neg h2, if_neg (by omega), if_neg (by omega)]
  rw [this]
theorem cntG_mono (pt : Int → Int → Int) (l m : List Int) {s t : Int} (h : s ≤ t) : cntG pt l m t ≤ cntG pt l m s := by
  unfold cntG cntL
  refine List.countP_mono_left fun p _ hp => ?_
  simp only [decide_eq_true_eq] at hp ⊢
  omega
theorem psum_neg (l m p : List Int) (k : Nat) : psum mulP (l.map fun x => -x) m p k = - psum mulP l m p k := by
  induction k with
  | zero => rfl
  | succ k ih =>
    rw [psum_succ, psum_succ, ih]
    have : (l.map fun x => -x).getD k 0 = - l.getD k 0 := by
      by_cases h : k < l.length
      · simp [List.getD, h]
      · simp [List.getD, Nat.le_of_not_lt h]
    rw [this]
    unfold mulP
    rw [Int.neg_mul]; omega
theorem cntG_neg (l m : List Int) (s : Int) : cntG mulP l m s + cntG mulP (l.map fun x => -x) m (1 - s) = fact l.length := by
  have h : ∀ L : List (List Int), cntL mulP l m s L + cntL mulP (l.map fun x => -x) m (1 - s) L = L.length := by
    intro L
    unfold cntL
    rw [List.length_map]
    induction L with
    | nil => rfl
    | cons p L ih =>
      rw [List.countP_cons, List.countP_cons, List.length_cons, psum_neg]
      by_cases h : s ≤ psum mulP l m p l.length
      · rw [decide_eq_true h, decide_eq_false (by omega)]; simp; omega
      · rw [decide_eq_false h, decide_eq_true (by omega)]; simp; omega
  unfold cntG
  rw [List.length_map, h, gen_length]
theorem cntG_le (pt : Int → Int → Int) (l m : List Int) (s : Int) : cntG pt l m s ≤ fact l.length := by
  unfold cntG
  have := cntL_le pt l m s (gen l.length 0 (iota l.length))
  rwa [gen_length] at this
end Go.Proofs.Ytmkleegfbapakaa
