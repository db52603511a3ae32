
namespace Go.Proofs.YtmcbbhlglccmgaaGreat

/-! Subsets, in plain words: how many of so many values have a sum of at least a number. -/
def cs (least : Int) : Nat → List Int → Int → Nat
  | 0, _, a => if least ≤ a then 1 else 0
  | _ + 1, [], _ => 0
  | f + 1, x :: l, a => cs least f l (a + x) + cs least (f + 1) l a
/-- Every subset with one value more. -/
def growS (S : List (Nat × Int)) (x : Int) : List (Nat × Int) := S ++ S.map fun p => (p.1 + 1, p.2 + x)
def subsF (S : List (Nat × Int)) (l : List Int) : List (Nat × Int) := l.foldl growS S
/-- All subsets: how many elements, and the sum. -/
def subs (l : List Int) : List (Nat × Int) := subsF [(0, 0)] l
theorem subs_snoc (l : List Int) (x : Int) : subs (l ++ [x]) = growS (subs l) x := by simp [subs, subsF, List.foldl_append]
theorem growS_length (S : List (Nat × Int)) (x : Int) : (growS S x).length = 2 * S.length := by simp [growS]; omega
theorem subs_length (l : List Int) : (subs l).length = 2 ^ l.length := by
  unfold subs subsF
  have : ∀ (l : List Int) (S : List (Nat × Int)), (l.foldl growS S).length = 2 ^ l.length * S.length := by
    intro l
    induction l with
    | nil => intro S; simp
    | cons x l ih => intro S; rw [List.foldl_cons, ih, growS_length, List.length_cons, Nat.pow_succ]; rw [Nat.mul_assoc]
  rw [this]; simp
theorem cnt_grow (q : Nat × Int → Bool) (S : List (Nat × Int)) (x : Int) : (growS S x).countP q = S.countP q + S.countP (fun p => q (p.1 + 1, p.2 + x)) := by
  unfold growS
  rw [List.countP_append, List.countP_map]
  rfl
theorem cnt_app (q : Nat × Int → Bool) : ∀ (l : List Int) (A B : List (Nat × Int)), (subsF (A ++ B) l).countP q = (subsF A l).countP q + (subsF B l).countP q := by
  intro l
  induction l with
  | nil => intro A B; simp [subsF]
  | cons x l ih =>
    intro A B
    have e : ∀ S, subsF S (x :: l) = subsF (S ++ S.map fun p => (p.1 + 1, p.2 + x)) l := fun S => rfl
    rw [e, e, e, ih, ih A, ih B, List.map_append, ih, ih]
    omega
theorem cnt_one (least : Int) (k : Nat) : ∀ (l : List Int) (m : Nat) (s : Int), (subsF [(m, s)] l).countP (fun p => p.1 == k && decide (least ≤ p.2)) = if m ≤ k then cs least (k - m) l s else 0 := by
  intro l
  induction l with
  | nil =>
    intro m s
    have e : subsF [(m, s)] [] = [(m, s)] := rfl
    rw [e]
    by_cases h : m ≤ k
    · rw [if_pos h]
      by_cases h2 : m = k
      · subst h2; by_cases h3 : least ≤ s <;> simp [cs, h3]
      · obtain ⟨d, hd⟩ : ∃ d, k - m = d + 1 := ⟨k - m - 1, by omega⟩
        simp [hd, cs, h2]
    · rw [if_neg h]
      have : m ≠ k := by omega
      simp [this]
  | cons x l ih =>
    intro m s
    have e : subsF [(m, s)] (x :: l) = subsF ([(m, s)] ++ [(m + 1, s + x)]) l := rfl
    rw [e, cnt_app, ih, ih]
    by_cases h : m ≤ k
    · rw [if_pos h, if_pos h]
      by_cases h2 : m = k
      · subst h2
        rw [if_neg (by omega)]
        simp [cs]
      · rw [if_pos (by omega)]
        obtain ⟨d, hd⟩ : ∃ d, k - m = d + 1 := ⟨k - m - 1, by omega⟩
        rw [hd, show k - (m + 1) = d by omega]
        simp only [cs]
        omega
    · rw [if_neg h, if_neg h, if_neg (by omega)]
theorem cnt_subs (least : Int) (k : Nat) (l : List Int) : (subs l).countP (fun p => p.1 == k && decide (least ≤ p.2)) = cs least k l 0 := by
  have := cnt_one least k l 0 0
  rw [if_pos (Nat.zero_le _)] at this
  simpa [subs] using this

/-- How many of a kind: one value more. -/
theorem count_grow (S : List (Nat × Int)) (x : Int) (m : Nat) (s : Int) : (growS S x).count (m, s) = S.count (m, s) + if 0 < m then S.count (m - 1, s - x) else 0 := by
  unfold List.count
  rw [cnt_grow]
  congr 1
  by_cases h : 0 < m
  · rw [if_pos h]
    refine List.countP_congr fun p _ => ?_
    obtain ⟨a, b⟩ := p
    simp only [beq_iff_eq, Prod.mk.injEq]
    omega
  · rw [if_neg h]
    refine List.countP_eq_zero.2 fun p _ => ?_
    obtain ⟨a, b⟩ := p
    simp only [beq_iff_eq, Prod.mk.injEq]
    omega
theorem subs_mem (V : Int) : ∀ (l : List Int), (∀ x ∈ l, -V ≤ x ∧ x ≤ V) → ∀ p ∈ subs l, p.1 ≤ l.length ∧ -(V * l.length) ≤ p.2 ∧ p.2 ≤ V * l.length := by
  intro l
  have h : ∀ (l : List Int) (S : List (Nat × Int)) (N : Nat), (∀ p ∈ S, p.1 ≤ N ∧ -(V * N) ≤ p.2 ∧ p.2 ≤ V * N) → (∀ x ∈ l, -V ≤ x ∧ x ≤ V) → ∀ p ∈ subsF S l, p.1 ≤ N + l.length ∧ -(V * (N + l.length : Nat)) ≤ p.2 ∧ p.2 ≤ V * (N + l.length : Nat) := by
    intro l
    induction l with
    | nil => intro S N hS _ p hp; simpa using hS p hp
    | cons x l ih =>
      intro S N hS hl p hp
      have hV := hl x (by simp)
      have := ih (growS S x) (N + 1) (fun p hp => by
        rcases List.mem_append.1 hp with h | h
        · have := hS p h
          have e : V * ((N + 1 : Nat) : Int) = V * N + V := by rw [Int.natCast_add, Int.mul_add]; simp
          rw [e]
          omega
        · obtain ⟨p', hp', rfl⟩ := List.mem_map.1 h
          have := hS p' hp'
          have e : V * ((N + 1 : Nat) : Int) = V * N + V := by rw [Int.natCast_add, Int.mul_add]; simp
          rw [e]
          dsimp only
          omega) (fun y hy => hl y (by simp [hy])) p hp
      rw [List.length_cons]
      rw [show N + (l.length + 1) = N + 1 + l.length by omega]
      exact this
  intro hl p hp
  have := h l [(0, 0)] 0 (by simp) hl p hp
  simpa using this

/-- The kinds of some subsets, each once, hold them all. -/
theorem sum_counts (S : List (Nat × Int)) (q : Nat × Int → Bool) : ∀ (done : List (Nat × Int)), done.Nodup → (done.filter q).foldl (fun t p => t + S.count p) 0 = S.countP (fun p => q p && decide (p ∈ done)) := by
  have hf : ∀ (l : List (Nat × Int)) (t : Nat), l.foldl (fun t p => t + S.count p) t = t + l.foldl (fun t p => t + S.count p) 0 := by
    intro l
    induction l with
    | nil => intro t; simp
    | cons p l ih => intro t; rw [List.foldl_cons, List.foldl_cons, ih, ih (0 + S.count p)]; omega
  intro done
  induction done with
  | nil => intro _; simp
  | cons p l ih =>
    intro hn
    obtain ⟨h1, h2⟩ := List.nodup_cons.1 hn
    have hih := ih h2
    clear ih
    have hsplit : S.countP (fun r => q r && decide (r ∈ p :: l)) = S.countP (fun r => q r && decide (r = p)) + S.countP (fun r => q r && decide (r ∈ l)) := by
      clear hih hf
      induction S with
      | nil => rfl
      | cons r S ihS =>
        rw [List.countP_cons, List.countP_cons, List.countP_cons, ihS]
        by_cases e : r = p
        · subst e
          simp [h1]
          cases q r <;> simp <;> omega
        · simp [e]
          omega
    rw [hsplit, ← hih, List.filter_cons]
    cases hq : q p with
    | true =>
      rw [if_pos rfl, List.foldl_cons, hf]
      have : S.countP (fun r => q r && decide (r = p)) = S.count p := by
        unfold List.count
        refine List.countP_congr fun r _ => ?_
        simp only [Bool.and_eq_true, decide_eq_true_eq, beq_iff_eq]
        constructor
        · exact fun h => h.2
        · rintro rfl; exact ⟨hq, rfl⟩
      rw [this]
      omega
    | false =>
      rw [if_neg (by simp)]
      have : S.countP (fun r => q r && decide (r = p)) = 0 := by
        refine List.countP_eq_zero.2 fun r _ => ?_
        simp only [Bool.and_eq_true, decide_eq_true_eq, not_and]
        rintro h rfl
        rw [hq] at h
        cases h
      rw [this]
      omega
end Go.Proofs.YtmcbbhlglccmgaaGreat
