import Derived.Test.YtmkleegfbapakaaDSlot
import Derived.Test.YtmkleegfbapakaaDCommon
import Derived.Test.YtmkleegfbapakaaDMeas
namespace Go.Proofs.Ytmkleegfbapakaa
open Go.RowKit Go D28

theorem inc_of_fit {J S : Int} {b : List Bool} {l : List Int} (h : fitB J S b l = true) : (l.length : Int) = S ∧ Inc l ∧ (∀ x ∈ l, 0 ≤ x ∧ x < J) ∧ (∀ x ∈ l, b.getD x.toNat true = false) := by
  simp only [fitB, Bool.and_eq_true, decide_eq_true_eq, List.all_eq_true, List.mem_range, fitAt, Bool.not_eq_true'] at h
  obtain ⟨h1, h2⟩ := h
  have hg : ∀ i (hi : i < l.length), l.getD i 0 = l[i] := fun i hi => by simp [List.getD, hi]
  have hlt : ∀ d i (_ : i + d + 1 < l.length), l.getD i 0 < l.getD (i + d + 1) 0 := by
    intro d
    induction d with
    | zero => intro i hi
              have := (h2 (i + 1) hi).1.2.2 (by omega)
              simpa using this
    | succ d ih => intro i hi
                   have a1 := ih i (by omega)
                   have a2 := (h2 (i + d + 1 + 1) (by omega)).1.2.2 (by omega)
                   simp only [Nat.add_sub_cancel] at a2
                   have e : i + (d + 1) + 1 = i + d + 1 + 1 := by omega
                   rw [e]; omega
  refine ⟨h1, ?_, fun x hx => ?_, fun x hx => ?_⟩
  · unfold Inc
    rw [List.pairwise_iff_getElem]
    intro i j hi hj hij
    have := hlt (j - i - 1) i (by omega)
    rw [show i + (j - i - 1) + 1 = j by omega, hg _ hi, hg _ hj] at this
    exact this
  · obtain ⟨i, hi, rfl⟩ := List.getElem_of_mem hx
    have := (h2 i hi).1
    rw [hg i hi] at this
    exact ⟨this.1, this.2.1⟩
  · obtain ⟨i, hi, rfl⟩ := List.getElem_of_mem hx
    have := (h2 i hi).2
    rw [hg i hi] at this
    exact this

/-- What Check's OK says of the rows. -/
theorem rows_ok {J S N : Int} {bad : List (List Bool)} {ps : List (List Int)} (h : checkE J S N bad ps = 0) :
    ps.length = bad.length ∧ ps.length ≤ 4096 ∧ 1 ≤ J ∧ J ≤ 256 ∧ 1 ≤ S ∧ S ≤ J ∧ ∀ i, i < ps.length → ((ps.getD i []).length : Int) = S ∧ Inc (ps.getD i []) ∧ ∀ x ∈ ps.getD i [], 0 ≤ x ∧ x < J := by
  obtain ⟨h1, h2, h3⟩ := checkE_zero h
  obtain ⟨_, r1, r2, r3, r4, r5⟩ := right_rows h1
  rw [List.all_eq_true] at h3
  refine ⟨h2, by omega, r1, r2, r3, r4, fun i hi => ?_⟩
  obtain ⟨f1, f2, f3, _⟩ := inc_of_fit (h3 i (List.mem_range.2 hi))
  exact ⟨f1, f2, f3⟩

/-- The array counts, q rows and p elements on. -/
def cArr (ps : List (List Int)) (m q p i : Nat) : Int := (cntTo ps ((i / 16 : Nat) : Int) m (i % 16) q : Int) + if q % m = i % 16 ∧ ((i / 16 : Nat) : Int) ∈ (ps.getD q []).take p then 1 else 0
/-- The array loads. -/
def lArr (ps : List (List Int)) (q p j : Nat) : Int := (dLoad (ps.take q) (j : Int) : Int) + if (j : Int) ∈ (ps.getD q []).take p then 1 else 0
theorem cArr_zero (ps : List (List Int)) (m i : Nat) : cArr ps m 0 0 i = 0 := by simp [cArr, cntTo]
theorem lArr_zero (ps : List (List Int)) (j : Nat) : lArr ps 0 0 j = 0 := by simp [lArr, dLoad]
theorem inc_new {l : List Int} (h : Inc l) {p : Nat} {x : Int} (hx : l[p]? = some x) : x ∉ l.take p := by
  intro hm
  obtain ⟨i, hi, e⟩ := List.getElem_of_mem hm
  simp only [List.length_take] at hi
  obtain ⟨hp, e2⟩ := List.getElem?_eq_some_iff.1 hx
  have := (List.pairwise_iff_getElem.1 h) i p (by omega) hp (by omega)
  rw [List.getElem_take] at e
  omega
theorem cArr_step {ps : List (List Int)} {m q p i : Nat} {j : Nat} (hI : Inc (ps.getD q [])) (hx : (ps.getD q [])[p]? = some (j : Int)) (hm : m ≤ 16) (hm1 : 1 ≤ m) :
    cArr ps m q (p + 1) i = if i = j * 16 + q % m then cArr ps m q p i + 1 else cArr ps m q p i := by
  have hn := inc_new hI hx
  have hq : q % m < m := Nat.mod_lt _ (by omega)
  unfold cArr
  rw [take_get hx]
  simp only [List.mem_append, List.mem_singleton]
  by_cases hi : i = j * 16 + q % m
  · have e1 : i / 16 = j := by omega
    have e2 : i % 16 = q % m := by omega
    rw [if_pos hi, e1, e2, if_pos ⟨rfl, Or.inr rfl⟩, if_neg (fun h => hn h.2)]
    omega
  · rw [if_neg hi]
    have : ¬ (q % m = i % 16 ∧ ((i / 16 : Nat) : Int) = (j : Int)) := by omega
    by_cases h1 : q % m = i % 16
    · have h2 : ¬ ((i / 16 : Nat) : Int) = (j : Int) := fun e => this ⟨h1, e⟩
      simp only [h2, or_false]
    · simp only [h1, false_and, if_false]
theorem lArr_step {ps : List (List Int)} {q p i : Nat} {j : Nat} (hI : Inc (ps.getD q [])) (hx : (ps.getD q [])[p]? = some (j : Int)) :
    lArr ps q (p + 1) i = if i = j then lArr ps q p i + 1 else lArr ps q p i := by
  have hn := inc_new hI hx
  unfold lArr
  rw [take_get hx]
  simp only [List.mem_append, List.mem_singleton]
  by_cases hi : i = j
  · subst hi
    rw [if_pos rfl, if_pos (Or.inr rfl), if_neg hn]
    omega
  · have : ¬ (i : Int) = (j : Int) := by omega
    simp [hi, this]
theorem cArr_next (ps : List (List Int)) (m q i : Nat) : cArr ps m q (ps.getD q []).length i = cArr ps m (q + 1) 0 i := by
  unfold cArr
  rw [cntTo_succ, List.take_length]
  simp only [List.take_zero, List.not_mem_nil, and_false, if_false]
  split <;> simp
theorem lArr_next (ps : List (List Int)) (q i : Nat) (hq : q < ps.length) : lArr ps q (ps.getD q []).length i = lArr ps (q + 1) 0 i := by
  have e : ps[q]? = some (ps.getD q []) := by simp [List.getD, hq]
  unfold lArr
  rw [load_take e, List.take_length]
  simp only [List.take_zero, List.not_mem_nil, if_false]
  split <;> simp
theorem cArr_all (ps : List (List Int)) (m j k : Nat) (hk : k < 16) : cArr ps m ps.length 0 (j * 16 + k) = (dCnt ps (j : Int) m k : Int) := by
  unfold cArr
  rw [cntTo_eq, show (j * 16 + k) / 16 = j by omega, show (j * 16 + k) % 16 = k by omega]
  simp
theorem lArr_all (ps : List (List Int)) (j : Nat) : lArr ps ps.length 0 j = (dLoad ps (j : Int) : Int) := by
  unfold lArr; simp
theorem cArr_bd (ps : List (List Int)) (m q p i : Nat) : 0 ≤ cArr ps m q p i ∧ cArr ps m q p i ≤ q + 1 := by
  have := cntTo_le ps ((i / 16 : Nat) : Int) m (i % 16) q
  unfold cArr; split <;> omega
theorem lArr_bd (ps : List (List Int)) (q p i : Nat) : 0 ≤ lArr ps q p i ∧ lArr ps q p i ≤ q + 1 := by
  have := load_le (ps.take q) (i : Int)
  simp only [List.length_take] at this
  unfold lArr; split <;> omega
end Go.Proofs.Ytmkleegfbapakaa
