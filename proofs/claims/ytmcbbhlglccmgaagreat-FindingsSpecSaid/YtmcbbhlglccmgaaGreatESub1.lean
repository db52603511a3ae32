import Derived.Test.YtmcbbhlglccmgaaGreatEMap
import Derived.Test.YtmcbbhlglccmgaaGreatEOrders
namespace Go.Proofs.YtmcbbhlglccmgaaGreat
open Go.RowKit Go Go.Maps
set_option maxRecDepth 100000
set_option linter.unusedSimpArgs false

/-- How many subsets of each kind stand in the map behind i values. -/
def fI (k : Nat) (l : List Int) (i : Nat) (p : Nat × Int) : Nat := if p.1 ≤ k ∧ k ≤ p.1 + (l.length - i) then (subs (l.take i)).count p else 0
/-- .. in the next map, when some kinds have been seen. -/
def gD (f : Nat × Int → Nat) (k rem : Nat) (x : Int) (done : List (Nat × Int)) (p : Nat × Int) : Nat :=
  (if p ∈ done ∧ k < p.1 + rem then f p else 0) + if 0 < p.1 ∧ (p.1 - 1, p.2 - x) ∈ done ∧ p.1 ≤ k then f (p.1 - 1, p.2 - x) else 0
theorem gD_nil (f : Nat × Int → Nat) (k rem : Nat) (x : Int) : gD f k rem x [] = fun _ => 0 := by funext p; simp [gD]
theorem gD_cons (f : Nat × Int → Nat) (k rem : Nat) (x : Int) (done : List (Nat × Int)) (q : Nat × Int) (hq : q ∉ done) (p : Nat × Int) :
    gD f k rem x (q :: done) p = gD f k rem x done p + (if p = q ∧ k < q.1 + rem then f q else 0) + (if p = (q.1 + 1, q.2 + x) ∧ q.1 < k then f q else 0) := by
  obtain ⟨a, b⟩ := p
  obtain ⟨c, d⟩ := q
  have h1 : ((a, b) ∈ (c, d) :: done ∧ k < a + rem) ↔ ((a, b) = (c, d) ∧ k < c + rem) ∨ ((a, b) ∈ done ∧ k < a + rem) := by
    simp only [List.mem_cons, Prod.mk.injEq]
    constructor
    · rintro ⟨⟨rfl, rfl⟩ | h, h2⟩
      · exact .inl ⟨⟨rfl, rfl⟩, h2⟩
      · exact .inr ⟨h, h2⟩
    · rintro (⟨⟨rfl, rfl⟩, h2⟩ | ⟨h, h2⟩)
      · exact ⟨.inl ⟨rfl, rfl⟩, h2⟩
      · exact ⟨.inr h, h2⟩
  have h2 : (0 < a ∧ (a - 1, b - x) ∈ (c, d) :: done ∧ a ≤ k) ↔ ((a, b) = (c + 1, d + x) ∧ c < k) ∨ (0 < a ∧ (a - 1, b - x) ∈ done ∧ a ≤ k) := by
    simp only [List.mem_cons, Prod.mk.injEq]
    constructor
    · rintro ⟨h0, ⟨h1, h2⟩ | h, h3⟩
      · exact .inl ⟨⟨by omega, by omega⟩, by omega⟩
      · exact .inr ⟨h0, h, h3⟩
    · rintro (⟨⟨h0, h1⟩, h2⟩ | ⟨h0, h, h3⟩)
      · exact ⟨by omega, .inl ⟨by omega, by omega⟩, by omega⟩
      · exact ⟨h0, .inr h, h3⟩
  have e1 : (if (a, b) ∈ (c, d) :: done ∧ k < a + rem then f (a, b) else 0) = (if (a, b) ∈ done ∧ k < a + rem then f (a, b) else 0) + if (a, b) = (c, d) ∧ k < c + rem then f (c, d) else 0 := by
    by_cases A : (a, b) = (c, d) ∧ k < c + rem
    · rw [if_pos (h1.2 (.inl A)), if_pos A, if_neg (fun h => hq (A.1 ▸ h.1)), A.1, Nat.zero_add]
    · rw [if_neg A, Nat.add_zero]
      by_cases B : (a, b) ∈ done ∧ k < a + rem
      · rw [if_pos (h1.2 (.inr B)), if_pos B]
      · rw [if_neg (fun h => (h1.1 h).elim A B), if_neg B]
  have e2 : (if 0 < a ∧ (a - 1, b - x) ∈ (c, d) :: done ∧ a ≤ k then f (a - 1, b - x) else 0) = (if 0 < a ∧ (a - 1, b - x) ∈ done ∧ a ≤ k then f (a - 1, b - x) else 0) + if (a, b) = (c + 1, d + x) ∧ c < k then f (c, d) else 0 := by
    by_cases A : (a, b) = (c + 1, d + x) ∧ c < k
    · have ea : (a - 1, b - x) = (c, d) := by
        have := A.1
        simp only [Prod.mk.injEq] at this ⊢
        omega
      rw [if_pos (h2.2 (.inl A)), if_pos A, if_neg (fun h => hq (ea ▸ h.2.1)), ea, Nat.zero_add]
    · rw [if_neg A, Nat.add_zero]
      by_cases B : 0 < a ∧ (a - 1, b - x) ∈ done ∧ a ≤ k
      · rw [if_pos (h2.2 (.inr B)), if_pos B]
      · rw [if_neg (fun h => (h2.1 h).elim A B), if_neg B]
  simp only [gD]
  rw [e1, e2]
  omega
theorem gD_all {k : Nat} {l : List Int} {i : Nat} (hi : i < l.length) {done : List (Nat × Int)} (hd : ∀ p, 0 < fI k l i p → p ∈ done) : gD (fI k l i) k (l.length - i) (l.getD i 0) done = fI k l (i + 1) := by
  funext p
  obtain ⟨m, s⟩ := p
  have ht : l.take (i + 1) = l.take i ++ [l.getD i 0] := by rw [List.take_add_one, List.getElem?_eq_getElem hi]; simp [List.getD, hi]
  have hs : fI k l (i + 1) (m, s) = if m ≤ k ∧ k < m + (l.length - i) then (subs (l.take i)).count (m, s) + (if 0 < m then (subs (l.take i)).count (m - 1, s - l.getD i 0) else 0) else 0 := by
    unfold fI
    rw [ht, subs_snoc, count_grow]
    by_cases h : m ≤ k ∧ k < m + (l.length - i)
    · rw [if_pos h, if_pos (by dsimp only; omega)]
    · rw [if_neg h, if_neg (by dsimp only; omega)]
  rw [hs]
  have e1 : (if (m, s) ∈ done ∧ k < m + (l.length - i) then fI k l i (m, s) else 0) = if m ≤ k ∧ k < m + (l.length - i) then (subs (l.take i)).count (m, s) else 0 := by
    by_cases h : m ≤ k ∧ k < m + (l.length - i)
    · rw [if_pos h]
      have ef : fI k l i (m, s) = (subs (l.take i)).count (m, s) := by unfold fI; rw [if_pos (by dsimp only; omega)]
      by_cases hm : (m, s) ∈ done
      · rw [if_pos ⟨hm, h.2⟩, ef]
      · rw [if_neg (fun h => hm h.1)]
        have : ¬ 0 < fI k l i (m, s) := fun h => hm (hd _ h)
        omega
    · rw [if_neg h]
      by_cases h2 : (m, s) ∈ done ∧ k < m + (l.length - i)
      · rw [if_pos h2]; unfold fI; rw [if_neg (by dsimp only; omega)]
      · rw [if_neg h2]
  have e2 : (if 0 < m ∧ (m - 1, s - l.getD i 0) ∈ done ∧ m ≤ k then fI k l i (m - 1, s - l.getD i 0) else 0) = if m ≤ k ∧ k < m + (l.length - i) then (if 0 < m then (subs (l.take i)).count (m - 1, s - l.getD i 0) else 0) else 0 := by
    by_cases h0 : 0 < m
    · have h0' := h0
      by_cases h : m ≤ k ∧ k < m + (l.length - i)
      · rw [if_pos h, if_pos h0]
        have ef : fI k l i (m - 1, s - l.getD i 0) = (subs (l.take i)).count (m - 1, s - l.getD i 0) := by unfold fI; rw [if_pos (by dsimp only; omega)]
        by_cases hm : (m - 1, s - l.getD i 0) ∈ done
        · rw [if_pos ⟨h0, hm, h.1⟩, ef]
        · rw [if_neg (fun h => hm h.2.1)]
          have : ¬ 0 < fI k l i (m - 1, s - l.getD i 0) := fun h => hm (hd _ h)
          omega
      · rw [if_neg h]
        by_cases h2 : 0 < m ∧ (m - 1, s - l.getD i 0) ∈ done ∧ m ≤ k
        · rw [if_pos h2]; unfold fI; rw [if_neg (by dsimp only; omega)]
        · rw [if_neg h2]
    · rw [if_neg (fun h => h0 h.1)]
      split <;> rfl
  unfold gD
  dsimp only
  rw [e1, e2]
  split <;> rfl
theorem fI_le (k : Nat) (l : List Int) (i : Nat) (p : Nat × Int) : fI k l i p ≤ 2 ^ i := by
  unfold fI
  split
  · have h1 := List.count_le_length (a := p) (l := subs (l.take i))
    rw [subs_length] at h1
    exact Nat.le_trans h1 (Nat.pow_le_pow_right (by omega) (List.length_take_le _ _))
  · exact Nat.zero_le _
theorem fI_mem {k : Nat} {l : List Int} {i : Nat} {p : Nat × Int} (h : 0 < fI k l i p) : p ∈ subs (l.take i) ∧ p.1 ≤ k := by
  unfold fI at h
  split at h
  · rename_i c; exact ⟨List.count_pos_iff.1 h, c.1⟩
  · omega
theorem fI_zero (k : Nat) (l : List Int) (hk : k ≤ l.length) : fI k l 0 = fun q => if q = (0, 0) then 1 else 0 := by
  funext p
  unfold fI
  obtain ⟨m, s⟩ := p
  have e : subs (l.take 0) = [(0, 0)] := rfl
  rw [e]
  by_cases h : (m, s) = (0, 0)
  · cases h
    rw [if_pos rfl, if_pos (by dsimp only; omega)]; rfl
  · rw [if_neg h]
    have h2 : ¬ ((0, 0) : Nat × Int) = (m, s) := fun e => h e.symm
    have : List.count (m, s) [((0 : Nat), (0 : Int))] = 0 := by simp [List.count_cons, h2]
    rw [this]; split <;> rfl
theorem done_le {k : Nat} {l : List Int} {i : Nat} {done : List (Nat × Int)} (hn : done.Nodup) (hd : ∀ p ∈ done, 0 < fI k l i p) : done.length ≤ 2 ^ i := by
  have h1 : (subs (l.take i)).length ≤ 2 ^ i := by rw [subs_length]; exact Nat.pow_le_pow_right (by omega) (List.length_take_le _ _)
  rcases Nat.lt_or_ge (subs (l.take i)).length done.length with h | h
  · have := (perm_of_subset done _ hn (fun p hp => (fI_mem (hd p hp)).1) (by omega)).length_eq
    omega
  · omega
theorem fI_wf {k : Nat} {l : List Int} {i : Nat} {p : Nat × Int} (hl : ∀ x ∈ l, -1048576 ≤ x ∧ x ≤ 1048576) (h64 : l.length ≤ 64) (h : 0 < fI k l i p) : p.1 ≤ 64 ∧ -67108864 ≤ p.2 ∧ p.2 ≤ 67108864 := by
  have := subs_mem 1048576 (l.take i) (fun x hx => hl x (List.mem_of_mem_take hx)) p (fI_mem h).1
  have h2 : (l.take i).length ≤ 64 := Nat.le_trans (List.length_take_le' _ _) h64
  omega

/-- One kind of subset, c times more; the key and the numbers as the walk spells them. -/
theorem OM.addK {w : World} {b n : Nat} {D : DataW Unit} {f : Nat × Int → Nat} (h : OM w b n D) (hn : n + 1 < maxLen) (hf : MapC D f) (m : Nat) (M s : Int) (hM : M = m) (hp : Wf (m, s)) (F c : Nat) (hF : f (m, s) = F) (hc : 0 < c) (hb : F + c ≤ 9223372036854775807) :
    ∃ v0 st w1 w2 D2, (Instr.lookup 89 (.map (some b)) (.agg #[.int .i64 M, .int .i64 s]) false).run Tryz.prog w = .ok (.int .i64 (F : Nat)) w ∧ (Instr.mapEntry 89 (.map (some b)) (.agg #[.int .i64 M, .int .i64 s])).run Tryz.prog w = .ok (.tuple #[v0, .int .i64 (st : Nat)]) w1 ∧
      (Instr.lookup 89 (.map (some b)) (.agg #[.int .i64 M, .int .i64 s]) false).run Tryz.prog w1 = .ok (.int .i64 (F : Nat)) w1 ∧ (Instr.entryStore 89 (.map (some b)) (.int .i64 (st : Nat)) (.int .i64 ((F : Int) + (c : Int)))).run Tryz.prog w1 = .ok () w2 ∧
      w.grownBy w1 (some b) ∧ w1.heap.size = w.heap.size ∧ OM w2 b (n + 1) D2 ∧ MapC D2 (fun q => if q = (m, s) then F + c else f q) ∧ w.grownBy w2 (some b) := by
  subst hM hF
  have := h.add hn hf hp c hc hb
  simpa [kvOf, keyV] using this

theorem out_mem {l : List Int} (h : l.any outB = false) : ∀ x ∈ l, -1048576 ≤ x ∧ x ≤ 1048576 := by
  intro x hx
  have := List.any_eq_false.1 h x hx
  simp only [outB, Bool.or_eq_true, decide_eq_true_eq, not_or] at this
  omega
/-- The sum over some kinds. -/
def tot (f : Nat × Int → Nat) (q : Nat × Int → Bool) : List (Nat × Int) → Nat
  | [] => 0
  | p :: l => (if q p then f p else 0) + tot f q l
theorem tot_congr {f g : Nat × Int → Nat} {q : Nat × Int → Bool} (h : ∀ p, q p = true → f p = g p) : ∀ l, tot f q l = tot g q l
  | [] => rfl
  | p :: l => by
    simp only [tot]
    rw [tot_congr h l]
    cases hq : q p
    · rfl
    · rw [h p hq]
theorem tot_count (S : List (Nat × Int)) (q : Nat × Int → Bool) (done : List (Nat × Int)) (hn : done.Nodup) : tot (fun p => S.count p) q done = S.countP (fun p => q p && decide (p ∈ done)) := by
  rw [← sum_counts S q done hn]
  have hf : ∀ (l : List (Nat × Int)) (t : Nat), l.foldl (fun t p => t + S.count p) t = t + l.foldl (fun t p => t + S.count p) 0 := by
    intro l
    induction l with
    | nil => intro t; simp
    | cons p l ih => intro t; rw [List.foldl_cons, List.foldl_cons, ih, ih (0 + S.count p)]; omega
  clear hn
  induction done with
  | nil => rfl
  | cons p l ih =>
    simp only [tot]
    rw [List.filter_cons, ih]
    cases q p with
    | true => rw [if_pos rfl, if_pos rfl, List.foldl_cons, hf _ (0 + S.count p)]; omega
    | false => rw [if_neg (by simp), if_neg (by simp)]; omega
/-- The subsets that count. -/
def qS (k : Nat) (sum : Int) (p : Nat × Int) : Bool := p.1 == k && decide (sum ≤ p.2)
theorem tot_fI {k : Nat} {sum : Int} {l : List Int} {done : List (Nat × Int)} (hn : done.Nodup) : tot (fI k l l.length) (qS k sum) done = (subs l).countP (fun p => qS k sum p && decide (p ∈ done)) := by
  rw [← tot_count _ _ _ hn]
  refine tot_congr (fun p hp => ?_) _
  simp only [qS, Bool.and_eq_true, beq_iff_eq] at hp
  unfold fI
  rw [if_pos (by omega), List.take_length]
theorem tot_le {k : Nat} {sum : Int} {l : List Int} {done : List (Nat × Int)} (hn : done.Nodup) : tot (fI k l l.length) (qS k sum) done ≤ 2 ^ l.length := by
  rw [tot_fI hn, ← subs_length]
  exact List.countP_le_length
theorem tot_all {k : Nat} {sum : Int} {l : List Int} {done : List (Nat × Int)} (hn : done.Nodup) (hd : ∀ p, 0 < fI k l l.length p → p ∈ done) : tot (fI k l l.length) (qS k sum) done = cs sum k l 0 := by
  rw [tot_fI hn, ← cnt_subs]
  refine List.countP_congr fun p hp => ?_
  have e : qS k sum p = (p.1 == k && decide (sum ≤ p.2)) := rfl
  rw [e]
  constructor
  · intro h; exact (Bool.and_eq_true _ _ ▸ h).1
  · intro h
    rw [h, Bool.true_and, decide_eq_true_eq]
    refine hd p ?_
    simp only [Bool.and_eq_true, beq_iff_eq] at h
    unfold fI
    rw [if_pos (by omega), List.take_length]
    exact List.count_pos_iff.2 hp
end Go.Proofs.YtmcbbhlglccmgaaGreat
