import Derived.Test.YtokffagbdfhnnaaGreatUJ
namespace Go.Proofs.YtokffagbdfhnnaaGreat
open Go.RowKit Go BigFrame Go.Shelf
set_option maxRecDepth 100000
set_option linter.unusedSimpArgs false
set_option linter.unusedVariables false

/-! Layer 11: what few numbers mean; a solution or a refutation. -/
theorem lenF_4 {n : Nat} (h : lenF n = true) (h17 : n ≤ 17) : n ≤ 4 := by
  unfold lenF at h
  simp only [Bool.or_eq_true, Bool.and_eq_true, decide_eq_true_eq] at h
  omega
theorem few_dim {A : List (List RatA)} (hf : fewA A = true) (hc : chkE A = 0) : A.length ≤ 4 ∧ widA A ≤ 4 := by
  unfold fewA at hf
  simp only [Bool.and_eq_true] at hf
  obtain ⟨h1, h2, _⟩ := chkE_0 hc
  refine ⟨lenF_4 hf.1 h1, ?_⟩
  by_cases h0 : A.length = 0
  · rw [List.eq_nil_of_length_eq_zero h0]; decide
  · have hm := mem_of_lt (show 0 < A.length by omega)
    have h3 := List.all_eq_true.1 hf.2 _ hm
    unfold fewL at h3
    simp only [Bool.and_eq_true] at h3
    exact lenF_4 h3.1 (h2 _ hm)
theorem few_le {a b c x y z : Nat} (h1 : a ≤ 4) (h2 : b ≤ x) (h3 : c ≤ y) (h : 16 * (30 * (x * y) + 62) ≤ z) : 2 ^ a * (30 * (b * c) + 62) ≤ z := by
  have e1 : 2 ^ a ≤ 16 := Nat.pow_le_pow_right (by omega) h1
  have e2 : b * c ≤ x * y := Nat.mul_le_mul h2 h3
  exact Nat.le_trans (Nat.mul_le_mul e1 (by omega)) h
theorem few_X {A : List (List RatA)} (h1 : A.length ≤ 4) (h2 : widA A ≤ 4) : FewX A := few_le h2 h1 h2 (by decide)
theorem few_S {A : List (List RatA)} (h1 : A.length ≤ 4) (h2 : widA A ≤ 4) : FewS A := few_le h2 h1 (show widA A + 1 ≤ 5 by omega) (by decide)
theorem few_T {A : List (List RatA)} (h1 : A.length ≤ 4) (h2 : widA A ≤ 4) : FewT A := few_le h1 (show widA A + 1 ≤ 5 by omega) (show A.length + 1 ≤ 5 by omega) (by decide)
/-- How great the numbers of a solution are. -/
theorem sol_sz {m n e k : Nat} {A : Mx} (h : CdX m (n + 1) e A) (hk : 2 ^ n * (e + 1) - 1 ≤ 30 * k) (hk1 : 1 ≤ k) (c : Nat) : Sz (solX n (elimX m A n) c) k := by
  have h2 := h.elim (n := n) (by omega)
  have hl := (elimX_ech m A n).le
  have hn : (elimX m A n).ps.length ≤ n := (rank_le m n A).2
  have hE : 2 ^ (elimX m A n).ps.length * (e + 1) ≤ 2 ^ n * (e + 1) := Nat.mul_le_mul_right _ (Nat.pow_le_pow_right (by omega) hn)
  unfold solX
  split
  · rename_i hm
    exact h2.sz (by omega) (by have := List.idxOf_lt_length_iff.2 hm; omega) (by omega)
  · exact ⟨Nat.pow_pos (by omega), Nat.one_lt_pow (by omega) (by omega)⟩
section
variable {A : List (List RatA)} {L : List RatA}
theorem aug_dot (r : Nat) (x : Nat → Rat) : dotX (widA A) (augA A L r) x = dotX (widA A) (mxA A r) x := sq_congr fun c hc => by unfold augA; rw [if_pos hc]
theorem aug_last (r : Nat) : augA A L r (widA A) = vecF L r := by unfold augA; rw [if_neg (Nat.lt_irrefl _)]; rfl
theorem trn_col {k : Nat} (hk : k < widA A) (y : Nat → Rat) : dotX A.length (trnA A L k) y = dotX A.length (fun r => mxA A r k) y := sq_congr fun c hc => by unfold trnA; rw [if_pos hk, if_pos hc]
theorem trn_end (y : Nat → Rat) : dotX A.length (trnA A L (widA A)) y = dotX A.length (vecF L) y := sq_congr fun c hc => by unfold trnA; rw [if_neg (Nat.lt_irrefl _), if_pos hc]
theorem trn_rk {k : Nat} (hk : k < widA A) : trnA A L k A.length = 0 := by unfold trnA; rw [if_pos hk, if_neg (Nat.lt_irrefl _)]
theorem trn_re : trnA A L (widA A) A.length = 1 := by unfold trnA; rw [if_neg (Nat.lt_irrefl _), if_neg (Nat.lt_irrefl _)]
theorem sol_ok' (hv : vecE A L A.length = 0) : solOk A L = okB A.length (widA A) (elimX A.length (augA A L) (widA A)) := by unfold solOk; rw [decide_eq_true hv]; rfl
theorem ref_ok' (hv : vecE A L A.length = 0) : refOk A L = okB (widA A + 1) A.length (elimX (widA A + 1) (trnA A L) A.length) := by unfold refOk; rw [decide_eq_true hv]; rfl
theorem sol_eqs (hv : vecE A L A.length = 0) (ho : solOk A L = true) : ∀ r, r < A.length → dotX (widA A) (mxA A r) (solF A L) = vecF L r := fun r hr => by
  rw [sol_ok' hv, okB_iff] at ho
  have := sol_ok (elimX_ech A.length (augA A L) (widA A)) ho r hr
  rw [aug_dot, aug_last] at this
  exact this
theorem ref_eqs (hv : vecE A L A.length = 0) (ho : refOk A L = true) : (∀ k, k < widA A → dotX A.length (fun r => mxA A r k) (refF A L) = 0) ∧ dotX A.length (vecF L) (refF A L) = 1 := by
  rw [ref_ok' hv, okB_iff] at ho
  have h := sol_ok (elimX_ech (widA A + 1) (trnA A L) A.length) ho
  refine ⟨fun k hk => ?_, ?_⟩
  · have := h k (by omega)
    rw [trn_col hk, trn_rk hk] at this
    exact this
  · have := h (widA A) (by omega)
    rw [trn_end, trn_re] at this
    exact this
theorem dot_comm (n : Nat) (f g : Nat → Rat) : dotX n f g = sq (fun r => g r * f r) n := sq_congr fun c _ => Rat.mul_comm _ _
/-- Whoever shows a refutation and whoever shows a solution: never both. -/
theorem never_mx {x y : Nat → Rat} (hx : ∀ r, r < A.length → dotX (widA A) (mxA A r) x = vecF L r) (hy : ∀ k, k < widA A → dotX A.length (fun r => mxA A r k) y = 0) (h1 : dotX A.length (vecF L) y = 1) : False := by
  refine never_both (m := A.length) (n := widA A) (A := augA A L) (x := x) (y := y) (fun r hr => by rw [aug_dot, aug_last]; exact hx r hr) (fun c hc => ?_) ?_
  · rw [← hy c hc, dot_comm]
    exact sq_congr fun r _ => by unfold augA; rw [if_pos hc]
  · rw [← h1, dot_comm]
    exact sq_congr fun r _ => by rw [aug_last]
theorem ok_of_mx (hv : vecE A L A.length = 0) {x : Nat → Rat} (hx : ∀ r, r < A.length → dotX (widA A) (mxA A r) x = vecF L r) : solOk A L = true := by
  rw [sol_ok' hv, okB_iff]
  exact ok_of_sol (elimX_ech A.length (augA A L) (widA A)) (x := x) fun r hr => by rw [aug_dot, aug_last]; exact hx r hr
theorem ref_of_mx (hv : vecE A L A.length = 0) {y : Nat → Rat} (hy : ∀ k, k < widA A → dotX A.length (fun r => mxA A r k) y = 0) (h1 : dotX A.length (vecF L) y = 1) : refOk A L = true := by
  rw [ref_ok' hv, okB_iff]
  refine ok_of_sol (elimX_ech (widA A + 1) (trnA A L) A.length) (x := y) fun r hr => ?_
  by_cases e : r < widA A
  · rw [trn_col e, trn_rk e]; exact hy r e
  · obtain rfl : r = widA A := by omega
    rw [trn_end, trn_re]; exact h1
theorem either_mx (hv : vecE A L A.length = 0) : refOk A L = !solOk A L := by
  cases hs : solOk A L with
  | true =>
    cases hr : refOk A L with
    | false => rfl
    | true =>
      obtain ⟨h1, h2⟩ := ref_eqs hv hr
      exact (never_mx (sol_eqs hv hs) h1 h2).elim
  | false =>
    rw [sol_ok' hv, Bool.eq_false_iff, ne_eq, okB_iff] at hs
    obtain ⟨y, h1, h2⟩ := sol_none (elimX_ech A.length (augA A L) (widA A)) hs
    refine ref_of_mx hv (y := y) (fun k hk => ?_) ?_
    · rw [dot_comm, ← h1 k hk]
      exact sq_congr fun r _ => by unfold augA; rw [if_pos hk]
    · rw [dot_comm, ← h2]
      exact sq_congr fun r _ => by rw [aug_last]
theorem sol_solves (hv : vecE A L A.length = 0) (ho : solOk A L = true) : solvesB A.length (widA A) (mxA A) (fun c => some (solF A L c)) (vecF L) = true :=
  solvesB_iff.2 fun r hr => by rw [dotM_some (F := mxA A r) (G := solF A L) fun c _ => ⟨rfl, rfl⟩, sol_eqs hv ho r hr]
theorem ref_refutes (hv : vecE A L A.length = 0) (ho : refOk A L = true) : refutesB A.length (widA A) A.length (mxA A) (fun c => some (refF A L c)) (vecF L) = true := by
  obtain ⟨h1, h2⟩ := ref_eqs hv ho
  exact refutesB_iff.2 ⟨rfl, fun k hk => by rw [dotM_some (F := fun r => mxA A r k) (G := refF A L) fun c _ => ⟨rfl, rfl⟩, h1 k hk], by rw [dotM_some (F := vecF L) (G := refF A L) fun c _ => ⟨rfl, rfl⟩, h2]⟩
theorem solF_sz (hv : vecE A L A.length = 0) (h1 : A.length ≤ 4) (h2 : widA A ≤ 4) (c : Nat) : Sz (solF A L c) 354 := by
  have k := few_S h1 h2
  refine sol_sz (aug_cd hv) (Nat.le_trans (Nat.sub_le_sub_right (show _ ≤ 10592 from ?_) 1) (by decide)) (by omega) c
  exact few_le h2 h1 (show widA A + 1 ≤ 5 by omega) (by decide)
theorem refF_sz (hv : vecE A L A.length = 0) (h1 : A.length ≤ 4) (h2 : widA A ≤ 4) (c : Nat) : Sz (refF A L c) 434 := by
  refine sol_sz (trn_cd hv) (Nat.le_trans (Nat.sub_le_sub_right (show _ ≤ 12992 from ?_) 1) (by decide)) (by omega) c
  exact few_le h1 (show widA A + 1 ≤ 5 by omega) (show A.length + 1 ≤ 5 by omega) (by decide)
theorem mx_sz (hc : chkE A = 0) : ∀ r, r < A.length → ∀ c, c < widA A → Sz (mxA A r c) 2 := fun r hr c hc2 => err_sz (chk_mat hc hr hc2).2
theorem vec_sz (he : elsE L = 0) : ∀ r, r < L.length → Sz (vecF L r) 2 := fun r hr => err_sz (els_mem he hr)
end
end Go.Proofs.YtokffagbdfhnnaaGreat
