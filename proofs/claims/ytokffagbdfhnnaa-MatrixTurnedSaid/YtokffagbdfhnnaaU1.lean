import GoSem.ClaimData
namespace Go.Proofs.Ytokffagbdfhnnaa
set_option maxRecDepth 100000
set_option linter.unusedSimpArgs false
set_option linter.unusedVariables false

/-! Linear equations: the elimination, its form, its solution, what never holds with it, ranks of turned numbers, and how great the numbers become. -/
/-- The sum of the first n values. -/
def sq (f : Nat → Rat) : Nat → Rat
  | 0 => 0
  | n + 1 => sq f n + f n
theorem sq_nil (f : Nat → Rat) : sq f 0 = 0 := rfl
theorem sq_succ (f : Nat → Rat) (n : Nat) : sq f (n + 1) = sq f n + f n := rfl
theorem sq_congr {f g : Nat → Rat} : ∀ {n : Nat}, (∀ i, i < n → f i = g i) → sq f n = sq g n
  | 0, _ => rfl
  | n + 1, h => by rw [sq_succ, sq_succ, sq_congr fun i hi => h i (by omega), h n (by omega)]
theorem sq_zero : ∀ n, sq (fun _ => 0) n = 0
  | 0 => rfl
  | n + 1 => by rw [sq_succ, sq_zero n]; grind
theorem sq_zero' {f : Nat → Rat} {n : Nat} (h : ∀ i, i < n → f i = 0) : sq f n = 0 := by rw [sq_congr h, sq_zero]
theorem sq_add (f g : Nat → Rat) : ∀ n, sq (fun i => f i + g i) n = sq f n + sq g n
  | 0 => by simp only [sq_nil]; grind
  | n + 1 => by simp only [sq_succ]; rw [sq_add f g n]; grind
theorem sq_mul (a : Rat) (f : Nat → Rat) : ∀ n, sq (fun i => a * f i) n = a * sq f n
  | 0 => by simp only [sq_nil]; grind
  | n + 1 => by simp only [sq_succ]; rw [sq_mul a f n]; grind
theorem sq_mulr (a : Rat) (f : Nat → Rat) (n : Nat) : sq (fun i => f i * a) n = sq f n * a := by
  rw [← Rat.mul_comm a, ← sq_mul]; exact sq_congr fun i _ => Rat.mul_comm _ _
theorem sq_sub (f g : Nat → Rat) (n : Nat) : sq (fun i => f i - g i) n = sq f n - sq g n := by
  induction n with
  | zero => simp only [sq_nil]; grind
  | succ n ih => simp only [sq_succ]; rw [ih]; grind
theorem sq_swap (f : Nat → Nat → Rat) (n : Nat) : ∀ m, sq (fun i => sq (fun j => f i j) n) m = sq (fun j => sq (fun i => f i j) m) n
  | 0 => by simp only [sq_nil]; exact (sq_zero n).symm
  | m + 1 => by
    simp only [sq_succ]
    rw [sq_swap f n m, ← sq_add]
/-- Only one of the values is not zero. -/
theorem sq_one {f : Nat → Rat} {k : Nat} : ∀ {n : Nat}, k < n → (∀ i, i < n → i ≠ k → f i = 0) → sq f n = f k
  | n + 1, hk, h => by
    rw [sq_succ]
    by_cases e : k = n
    · subst e; rw [sq_zero' fun i hi => h i (by omega) (by omega)]; grind
    · rw [sq_one (by omega) fun i hi hne => h i (by omega) hne, h n (by omega) (by omega)]; grind
theorem sq_le {f : Nat → Rat} {p n : Nat} (h : p ≤ n) (hz : ∀ i, p ≤ i → i < n → f i = 0) : sq f n = sq f p := by
  induction n with
  | zero => rw [show p = 0 by omega]
  | succ n ih =>
    by_cases e : p = n + 1
    · rw [e]
    · rw [sq_succ, ih (by omega) fun i h1 h2 => hz i h1 (by omega), hz n (by omega) (by omega)]; grind

/-- Numbers by row and column. -/
abbrev Mx := Nat → Nat → Rat
/-- Rows d and i exchanged. -/
def swapX (M : Mx) (d i : Nat) : Mx := fun r => if r = d then M i else if r = i then M d else M r
/-- One round: the row i with something in column k becomes the row d, with 1 there, and all others have 0 there. -/
def stepX (M : Mx) (d i k : Nat) : Mx := fun r c =>
  if r = d then M i c / M i k else swapX M d i r c - M i c / M i k * swapX M d i r k
/-- The first row from d on, below m, with something in column k. -/
def findX (M : Mx) (k : Nat) (d : Nat) : Nat → Option Nat
  | 0 => none
  | j + 1 => if M d k ≠ 0 then some d else findX M k (d + 1) j
theorem findX_some {M : Mx} {k : Nat} : ∀ {j d i : Nat}, findX M k d j = some i → d ≤ i ∧ i < d + j ∧ M i k ≠ 0 ∧ ∀ r, d ≤ r → r < i → M r k = 0
  | j + 1, d, i, h => by
    unfold findX at h
    by_cases e : M d k ≠ 0
    · rw [if_pos e] at h; cases h; exact ⟨Nat.le_refl _, by omega, e, fun r h1 h2 => by omega⟩
    · rw [if_neg e] at h
      obtain ⟨h1, h2, h3, h4⟩ := findX_some h
      refine ⟨by omega, by omega, h3, fun r hr1 hr2 => ?_⟩
      by_cases e2 : r = d
      · subst e2; exact Classical.not_not.1 e
      · exact h4 r (by omega) hr2
theorem findX_none {M : Mx} {k : Nat} : ∀ {j d : Nat}, findX M k d j = none → ∀ r, d ≤ r → r < d + j → M r k = 0
  | 0, d, _, r, h1, h2 => by omega
  | j + 1, d, h, r, h1, h2 => by
    unfold findX at h
    by_cases e : M d k ≠ 0
    · rw [if_pos e] at h; cases h
    · rw [if_neg e] at h
      by_cases e2 : r = d
      · subst e2; exact Classical.not_not.1 e
      · exact findX_none h r (by omega) (by omega)
/-- Where the elimination stands: the numbers, and the columns of the pivots. -/
structure StX where
  M : Mx
  ps : List Nat
/-- What one column does. -/
def colX (m : Nat) (s : StX) (k : Nat) : StX :=
  match findX s.M k s.ps.length (m - s.ps.length) with
  | none => s
  | some i => ⟨stepX s.M s.ps.length i k, s.ps ++ [k]⟩
/-- The elimination, in the first n columns of m rows. -/
def elimX (m : Nat) (A : Mx) : Nat → StX
  | 0 => ⟨A, []⟩
  | n + 1 => colX m (elimX m A n) n
/-- Each row of M is a sum of multiples of the first m rows of A. -/
def Comb (m : Nat) (A M : Mx) : Prop := ∃ T : Nat → Nat → Rat, ∀ r, r < m → ∀ c, M r c = sq (fun s => T r s * A s c) m
theorem Comb.refl (m : Nat) (A : Mx) : Comb m A A :=
  ⟨fun r s => if s = r then 1 else 0, fun r hr c => by
    show A r c = sq (fun s => (if s = r then 1 else 0) * A s c) m
    rw [sq_one hr fun i _ hne => by rw [if_neg hne, Rat.zero_mul], if_pos rfl, Rat.one_mul]⟩
theorem Comb.trans {m : Nat} {A B C : Mx} (h : Comb m A B) (k : Comb m B C) : Comb m A C := by
  obtain ⟨T, hT⟩ := h
  obtain ⟨U, hU⟩ := k
  refine ⟨fun r s => sq (fun i => U r i * T i s) m, fun r hr c => ?_⟩
  rw [hU r hr c]
  refine Eq.trans (b := sq (fun i => sq (fun s => U r i * T i s * A s c) m) m) (sq_congr fun i hi => by rw [hT i hi c, ← sq_mul]; exact sq_congr fun s _ => (Rat.mul_assoc _ _ _).symm) ?_
  exact Eq.trans (b := sq (fun s => sq (fun i => U r i * T i s * A s c) m) m) (sq_swap _ _ _) (sq_congr fun s _ => sq_mulr _ _ _)
/-- From two rows. -/
theorem Comb.two {m : Nat} {A M : Mx} (h : ∀ r, r < m → ∃ s t : Nat, s < m ∧ t < m ∧ ∃ x y : Rat, ∀ c, M r c = x * A s c + y * A t c) : Comb m A M := by
  refine ⟨fun r s => if hr : r < m then
      (if s = (h r hr).choose then (h r hr).choose_spec.choose_spec.2.2.choose else 0) + (if s = (h r hr).choose_spec.choose then (h r hr).choose_spec.choose_spec.2.2.choose_spec.choose else 0) else 0, fun r hr c => ?_⟩
  simp only [dif_pos hr]
  have hs := (h r hr).choose_spec.choose_spec.1
  have ht := (h r hr).choose_spec.choose_spec.2.1
  have he := (h r hr).choose_spec.choose_spec.2.2.choose_spec.choose_spec c
  generalize (h r hr).choose_spec.choose_spec.2.2.choose_spec.choose = y at *
  generalize (h r hr).choose_spec.choose_spec.2.2.choose = x at *
  generalize (h r hr).choose_spec.choose = t at *
  generalize (h r hr).choose = s at *
  rw [he]
  rw [show sq (fun i => ((if i = s then x else 0) + (if i = t then y else 0)) * A i c) m = sq (fun i => (if i = s then x else 0) * A i c) m + sq (fun i => (if i = t then y else 0) * A i c) m from by
    rw [← sq_add]; exact sq_congr fun i _ => by grind]
  rw [sq_one hs fun i _ hne => by rw [if_neg hne, Rat.zero_mul], sq_one ht fun i _ hne => by rw [if_neg hne, Rat.zero_mul], if_pos rfl, if_pos rfl]
theorem step_comb {m d i k : Nat} {M : Mx} (hd : d ≤ i) (hi : i < m) (hp : M i k ≠ 0) : Comb m M (stepX M d i k) ∧ Comb m (stepX M d i k) M := by
  constructor
  · refine Comb.two fun r hr => ?_
    by_cases e : r = d
    · exact ⟨i, i, hi, hi, 1 / M i k, 0, fun c => by unfold stepX; rw [if_pos e]; grind⟩
    · by_cases e2 : r = i
      · refine ⟨d, i, by omega, hi, 1, - (M d k / M i k), fun c => ?_⟩
        unfold stepX swapX; simp only [if_neg e, if_pos e2]; grind
      · refine ⟨r, i, by omega, hi, 1, - (M r k / M i k), fun c => ?_⟩
        unfold stepX swapX; simp only [if_neg e, if_neg e2]; grind
  · refine Comb.two fun r hr => ?_
    by_cases e2 : r = i
    · refine ⟨d, d, by omega, by omega, M i k, 0, fun c => ?_⟩
      unfold stepX; simp only [if_pos]; subst e2; grind
    · by_cases e : r = d
      · refine ⟨i, d, hi, by omega, 1, M d k, fun c => ?_⟩
        unfold stepX swapX; simp only [if_pos, if_neg (show ¬ i = d by omega)]; subst e; grind
      · refine ⟨r, d, by omega, by omega, 1, M r k, fun c => ?_⟩
        unfold stepX swapX; simp only [if_pos, if_neg e, if_neg e2]; grind
/-- What holds behind n columns. -/
structure EchX (m : Nat) (A : Mx) (n : Nat) (s : StX) : Prop where
  le : s.ps.length ≤ m
  lt : ∀ p ∈ s.ps, p < n
  inc : s.ps.Pairwise (· < ·)
  to : Comb m A s.M
  fro : Comb m s.M A
  piv : ∀ j k, s.ps[j]? = some k → ∀ r, r < m → s.M r k = if r = j then 1 else 0
  low : ∀ r, s.ps.length ≤ r → r < m → ∀ c, c < n → s.M r c = 0
  head : ∀ j k, s.ps[j]? = some k → ∀ c, c < k → s.M j c = 0
theorem elimX_ech (m : Nat) (A : Mx) : ∀ n, EchX m A n (elimX m A n)
  | 0 => ⟨by simp [elimX], by simp [elimX], by simp [elimX], Comb.refl _ _, Comb.refl _ _, by simp [elimX], fun r _ _ c hc => by omega, by simp [elimX]⟩
  | n + 1 => by
    have ih := elimX_ech m A n
    show EchX m A (n + 1) (colX m (elimX m A n) n)
    generalize elimX m A n = s at *
    unfold colX
    cases hf : findX s.M n s.ps.length (m - s.ps.length) with
    | none =>
      have h0 := findX_none hf
      exact ⟨ih.le, fun p hp => by have := ih.lt p hp; omega, ih.inc, ih.to, ih.fro, ih.piv, fun r h1 h2 c hc => by
        by_cases e : c = n
        · subst e; exact h0 r h1 (by have := ih.le; omega)
        · exact ih.low r h1 h2 c (by omega), ih.head⟩
    | some i =>
      obtain ⟨h1, h2, h3, h4⟩ := findX_some hf
      have hi : i < m := by omega
      obtain ⟨c1, c2⟩ := step_comb (M := s.M) h1 hi h3
      have hlow : ∀ c, c < n → s.M i c = 0 := fun c hc => ih.low i h1 hi c hc
      have hne : ∀ j k, s.ps[j]? = some k → j < s.ps.length ∧ k < n := fun j k hjk => ⟨(List.getElem?_eq_some_iff.1 hjk).1, ih.lt k (List.mem_of_getElem? hjk)⟩
      refine ⟨by simp; omega, ?_, ?_, ih.to.trans c1, c2.trans ih.fro, ?_, ?_, ?_⟩
      · intro p hp
        rcases List.mem_append.1 hp with hp | hp
        · have := ih.lt p hp; omega
        · obtain rfl := List.mem_singleton.1 hp; omega
      · refine List.pairwise_append.2 ⟨ih.inc, List.pairwise_singleton _ _, fun a ha b hb => ?_⟩
        obtain rfl := List.mem_singleton.1 hb
        exact ih.lt a ha
      · intro j k hjk r hr
        by_cases hj : j < s.ps.length
        · rw [List.getElem?_append_left hj] at hjk
          obtain ⟨_, hk⟩ := hne j k hjk
          have hz : s.M i k = 0 := hlow k hk
          show stepX s.M s.ps.length i n r k = _
          unfold stepX
          by_cases e : r = s.ps.length
          · rw [if_pos e, hz, if_neg (by omega)]; grind
          · rw [if_neg e, hz]
            unfold swapX
            rw [if_neg e]
            by_cases e2 : r = i
            · subst e2
              rw [if_pos rfl, if_neg (by omega)]
              have := ih.piv j k hjk s.ps.length (by omega)
              rw [if_neg (by omega)] at this
              rw [this]; grind
            · rw [if_neg e2, ih.piv j k hjk r hr]; grind
        · have hjl : j = s.ps.length := by
            have := (List.getElem?_eq_some_iff.1 hjk).1
            simp at this; omega
          subst hjl
          simp at hjk
          subst hjk
          show stepX s.M s.ps.length i n r n = _
          unfold stepX
          by_cases e : r = s.ps.length
          · rw [if_pos e, if_pos e]; grind
          · rw [if_neg e, if_neg e]; grind
      · intro r hr1 hr2 c hc
        have hr1' : s.ps.length < r := by rw [List.length_append] at hr1; exact hr1
        show stepX s.M s.ps.length i n r c = 0
        unfold stepX
        rw [if_neg (by omega)]
        have hsw : ∀ c, c < n → swapX s.M s.ps.length i r c = 0 := by
          intro c hc
          unfold swapX
          rw [if_neg (by omega)]
          by_cases e2 : r = i
          · rw [if_pos e2]; exact ih.low _ (Nat.le_refl _) (by omega) c hc
          · rw [if_neg e2]; exact ih.low r (by omega) hr2 c hc
        by_cases e : c = n
        · subst e; grind
        · rw [hsw c (by omega), hlow c (by omega)]; grind
      · intro j k hjk c hc
        by_cases hj : j < s.ps.length
        · rw [List.getElem?_append_left hj] at hjk
          obtain ⟨_, hk⟩ := hne j k hjk
          show stepX s.M s.ps.length i n j c = 0
          unfold stepX swapX
          rw [if_neg (by omega), if_neg (by omega), if_neg (by omega), ih.head j k hjk c hc, hlow c (by omega)]; grind
        · have hjl : j = s.ps.length := by
            have := (List.getElem?_eq_some_iff.1 hjk).1
            simp at this; omega
          subst hjl
          simp at hjk
          subst hjk
          show stepX s.M s.ps.length i n s.ps.length c = 0
          unfold stepX
          rw [if_pos rfl, hlow c hc]; grind

/-- The product of a row and a vector. -/
def dotX (n : Nat) (R x : Nat → Rat) : Rat := sq (fun c => R c * x c) n
/-- z is sent to 0. -/
def KerX (m n : Nat) (A : Mx) (z : Nat → Rat) : Prop := ∀ r, r < m → dotX n (A r) z = 0
theorem dot_comb {m n r : Nat} {A M : Mx} {T : Nat → Nat → Rat} {x : Nat → Rat} (h : ∀ c, M r c = sq (fun s => T r s * A s c) m) : dotX n (M r) x = sq (fun s => T r s * dotX n (A s) x) m := by
  unfold dotX
  refine Eq.trans (b := sq (fun c => sq (fun s => T r s * (A s c * x c)) m) n) (sq_congr fun c _ => by rw [h c, ← sq_mulr]; exact sq_congr fun s _ => Rat.mul_assoc _ _ _) ?_
  exact Eq.trans (b := sq (fun s => sq (fun c => T r s * (A s c * x c)) n) m) (sq_swap _ _ _) (sq_congr fun s _ => sq_mul _ _ _)
theorem KerX.comb {m n : Nat} {A M : Mx} {z : Nat → Rat} (h : KerX m n A z) (k : Comb m A M) : KerX m n M z := fun r hr => by
  obtain ⟨T, hT⟩ := k
  rw [dot_comb (hT r hr)]
  exact sq_zero' fun s hs => by rw [h s hs, Rat.mul_zero]
theorem elim_len_mono {m : Nat} {A : Mx} {k : Nat} : ∀ {n : Nat}, k ≤ n → ∃ l, (elimX m A n).ps = (elimX m A k).ps ++ l
  | 0, h => by rw [show k = 0 by omega]; exact ⟨[], by simp⟩
  | n + 1, h => by
    by_cases e : k = n + 1
    · rw [e]; exact ⟨[], by simp⟩
    · obtain ⟨l, hl⟩ := elim_len_mono (m := m) (A := A) (show k ≤ n by omega)
      show ∃ l, (colX m (elimX m A n) n).ps = _
      unfold colX
      split
      · exact ⟨l, hl⟩
      · exact ⟨l ++ [n], by rw [hl, List.append_assoc]⟩
/-- The column k is no pivot of the first k + 1 columns. -/
theorem elim_mem {m : Nat} {A : Mx} {k n : Nat} (h : k < n) : k ∈ (elimX m A n).ps ↔ k ∈ (elimX m A (k + 1)).ps := by
  induction n with
  | zero => omega
  | succ n ih =>
    by_cases e : k = n
    · rw [e]
    · have hkn : k < n := by omega
      rw [← ih hkn]
      show k ∈ (colX m (elimX m A n) n).ps ↔ _
      unfold colX
      split
      · rfl
      · simp only [List.mem_append, List.mem_singleton]
        exact ⟨fun h => h.elim id fun h => absurd h e, .inl⟩
theorem elim_succ {m : Nat} {A : Mx} (k : Nat) : ((elimX m A (k + 1)).ps = (elimX m A k).ps ++ [k] ∧ k ∈ (elimX m A (k + 1)).ps) ∨ (elimX m A (k + 1) = elimX m A k ∧ ¬ k ∈ (elimX m A (k + 1)).ps) := by
  have h := elimX_ech m A k
  show ((colX m (elimX m A k) k).ps = _ ∧ k ∈ (colX m (elimX m A k) k).ps) ∨ (colX m (elimX m A k) k = _ ∧ ¬ k ∈ (colX m (elimX m A k) k).ps)
  unfold colX
  split
  · exact .inr ⟨rfl, fun hk => by have := h.lt k hk; omega⟩
  · exact .inl ⟨rfl, by simp⟩
/-- Each column that is no pivot has a vector that is sent to 0, with 1 there and 0 in all columns behind it and in all that are no pivots. -/
theorem ech_ker {m k n : Nat} {A : Mx} {s : StX} (h : EchX m A (k + 1) s) (hk : ¬ k ∈ s.ps) (hn : k < n) :
    KerX m n A (fun c => if c = k then 1 else if c ∈ s.ps then - s.M (s.ps.idxOf c) k else 0) := by
  have key : KerX m n s.M (fun c => if c = k then 1 else if c ∈ s.ps then - s.M (s.ps.idxOf c) k else 0) := by
    intro r hr
    unfold dotX
    by_cases hrp : r < s.ps.length
    · have hj : s.ps[r]? = some s.ps[r] := List.getElem?_eq_getElem hrp
      have hlt := h.lt _ (List.getElem_mem hrp)
      have hne : s.ps[r] ≠ k := fun e => hk (e ▸ List.getElem_mem hrp)
      have nd : s.ps.Nodup := h.inc.imp fun hab => Nat.ne_of_lt hab
      have hid : s.ps.idxOf s.ps[r] = r := nd.idxOf_getElem r hrp
      rw [show sq (fun c => s.M r c * (if c = k then 1 else if c ∈ s.ps then - s.M (s.ps.idxOf c) k else 0)) n
        = sq (fun c => if c = k then s.M r k else 0) n + sq (fun c => if c = s.ps[r] then - s.M r k else 0) n from by
          rw [← sq_add]
          refine sq_congr fun c hc => ?_
          by_cases e1 : c = k
          · subst e1; rw [if_pos rfl, if_pos rfl, if_neg (Ne.symm hne)]; grind
          · rw [if_neg e1, if_neg e1]
            by_cases e2 : c = s.ps[r]
            · rw [if_pos e2, e2, if_pos (List.getElem_mem hrp), hid, h.piv r _ hj r hr, if_pos rfl]; grind
            · rw [if_neg e2]
              by_cases e3 : c ∈ s.ps
              · obtain ⟨j, hjl, hjc⟩ := List.getElem_of_mem e3
                rw [if_pos e3, h.piv j c (by rw [← hjc]; exact List.getElem?_eq_getElem hjl) r hr, if_neg (fun e => e2 (by subst e; exact hjc.symm))]; grind
              · rw [if_neg e3]; grind]
      rw [sq_one hn fun i _ hne => if_neg hne, sq_one (show s.ps[r] < n by omega) fun i _ hne => if_neg hne, if_pos rfl, if_pos rfl]; grind
    · refine sq_zero' fun c hc => ?_
      dsimp only
      by_cases e1 : c = k
      · subst e1; rw [if_pos rfl, h.low r (by omega) hr c (by omega)]; grind
      · rw [if_neg e1]
        by_cases e3 : c ∈ s.ps
        · have := h.lt c e3
          rw [h.low r (by omega) hr c (by omega)]; grind
        · rw [if_neg e3]; grind
  exact key.comb h.fro
/-- A pivot has none. -/
theorem ech_no {m k n : Nat} {A : Mx} {s : StX} (h : EchX m A (k + 1) s) (hk : k ∈ s.ps) (hn : k < n) {z : Nat → Rat} (hz : KerX m n A z) (h1 : z k = 1) (h0 : ∀ c, k < c → z c = 0) : False := by
  obtain ⟨j, hj, hjk⟩ := List.getElem_of_mem hk
  have hj' : s.ps[j]? = some k := by rw [← hjk]; exact List.getElem?_eq_getElem hj
  have hjm : j < m := Nat.lt_of_lt_of_le hj h.le
  have hz2 := hz.comb h.to j hjm
  unfold dotX at hz2
  rw [sq_one hn fun i _ hne => by
    rcases Nat.lt_or_gt_of_ne hne with h2 | h2
    · rw [h.head j k hj' i h2]; grind
    · rw [h0 i h2]; grind] at hz2
  rw [h.piv j k hj' j hjm, if_pos rfl, h1] at hz2
  grind
/-- Rows that are sums of multiples of each other's have the same pivots. -/
theorem piv_same {m n : Nat} {A B : Mx} (h1 : ∀ z, KerX m n A z ↔ KerX m n B z) {k : Nat} (hk : k < n) : k ∈ (elimX m A n).ps → k ∈ (elimX m B n).ps := by
  intro h
  rw [elim_mem hk] at h ⊢
  refine Classical.byContradiction fun hc => ?_
  have eb := elimX_ech m B (k + 1)
  have z := ech_ker eb hc hk
  refine ech_no (elimX_ech m A (k + 1)) h hk ((h1 _).2 z) (if_pos rfl) fun c hc => ?_
  rw [if_neg (by omega), if_neg fun hm => by have := eb.lt c hm; omega]
theorem ps_same {m n : Nat} {A B : Mx} (h1 : ∀ z, KerX m n A z ↔ KerX m n B z) : (elimX m A n).ps = (elimX m B n).ps := by
  suffices h : ∀ k, k ≤ n → (elimX m A k).ps = (elimX m B k).ps from h n (Nat.le_refl _)
  intro k hk
  induction k with
  | zero => rfl
  | succ k ih =>
    have i2 := ih (by omega)
    have ha := piv_same h1 (show k < n by omega)
    have hb := piv_same (fun z => (h1 z).symm) (show k < n by omega)
    rw [elim_mem (show k < n by omega), elim_mem (show k < n by omega)] at ha hb
    rcases elim_succ (m := m) (A := A) k with ⟨e1, m1⟩ | ⟨e1, m1⟩ <;> rcases elim_succ (m := m) (A := B) k with ⟨e2, m2⟩ | ⟨e2, m2⟩
    · rw [e1, e2, i2]
    · exact absurd (ha m1) m2
    · exact absurd (hb m2) m1
    · rw [e1, e2, i2]
theorem ker_comb {m n : Nat} {A B : Mx} (h : Comb m A B) (k : Comb m B A) (z : Nat → Rat) : KerX m n A z ↔ KerX m n B z := ⟨fun hz => hz.comb h, fun hz => hz.comb k⟩

/-- The equations hold together. -/
def OkX (m n : Nat) (s : StX) : Prop := ∀ r, s.ps.length ≤ r → r < m → s.M r n = 0
/-- The solution with 0 in all columns that are no pivots. -/
def solX (n : Nat) (s : StX) (c : Nat) : Rat := if c ∈ s.ps then s.M (s.ps.idxOf c) n else 0
theorem ps_idx {s : StX} {m n : Nat} {A : Mx} (h : EchX m A n s) {r : Nat} (hr : r < s.ps.length) : s.ps.idxOf s.ps[r] = r :=
  have nd : s.ps.Nodup := h.inc.imp fun hab => Nat.ne_of_lt hab
  nd.idxOf_getElem r hr
/-- What a row that has a pivot makes of a vector with 0 in all columns that are no pivots. -/
theorem dot_piv {m n : Nat} {A : Mx} {s : StX} (h : EchX m A n s) {x : Nat → Rat} (hx : ∀ c, c < n → ¬ c ∈ s.ps → x c = 0) {r : Nat} (hr : r < s.ps.length) : dotX n (s.M r) x = x s.ps[r] := by
  have hrm : r < m := Nat.lt_of_lt_of_le hr h.le
  have hlt := h.lt _ (List.getElem_mem hr)
  unfold dotX
  rw [sq_one hlt fun c hc hne => by
    by_cases e3 : c ∈ s.ps
    · obtain ⟨j, hjl, hjc⟩ := List.getElem_of_mem e3
      rw [h.piv j c (by rw [← hjc]; exact List.getElem?_eq_getElem hjl) r hrm, if_neg (fun e => hne (by subst e; exact hjc.symm))]; grind
    · rw [hx c hc e3]; grind]
  rw [h.piv r _ (List.getElem?_eq_getElem hr) r hrm, if_pos rfl]; grind
theorem dot_low {m n : Nat} {A : Mx} {s : StX} (h : EchX m A n s) (x : Nat → Rat) {r : Nat} (hr : s.ps.length ≤ r) (hm : r < m) : dotX n (s.M r) x = 0 :=
  sq_zero' fun c hc => by rw [h.low r hr hm c hc]; grind
theorem sol_zero {n c : Nat} {s : StX} (h : ¬ c ∈ s.ps) : solX n s c = 0 := if_neg h
theorem sol_ok {m n : Nat} {A : Mx} {s : StX} (h : EchX m A n s) (ho : OkX m n s) : ∀ r, r < m → dotX n (A r) (solX n s) = A r n := by
  have key : ∀ r, r < m → dotX n (s.M r) (solX n s) = s.M r n := by
    intro r hr
    by_cases hp : r < s.ps.length
    · rw [dot_piv h (fun c _ hc => sol_zero hc) hp]
      unfold solX
      rw [if_pos (List.getElem_mem hp), ps_idx h hp]
    · rw [dot_low h _ (by omega) hr, ho r (by omega) hr]
  obtain ⟨T, hT⟩ := h.fro
  intro r hr
  rw [dot_comb (hT r hr), hT r hr n]
  exact sq_congr fun i hi => by rw [key i hi]
theorem sol_none {m n : Nat} {A : Mx} {s : StX} (h : EchX m A n s) (ho : ¬ OkX m n s) : ∃ y : Nat → Rat, (∀ c, c < n → sq (fun r => y r * A r c) m = 0) ∧ sq (fun r => y r * A r n) m = 1 := by
  obtain ⟨r, h1, h2, h3⟩ : ∃ r, s.ps.length ≤ r ∧ r < m ∧ s.M r n ≠ 0 := by
    refine Classical.byContradiction fun hc => ho fun r h1 h2 => Classical.byContradiction fun h3 => hc ⟨r, h1, h2, h3⟩
  obtain ⟨T, hT⟩ := h.to
  refine ⟨fun i => T r i / s.M r n, fun c hc => ?_, ?_⟩
  · have := hT r h2 c
    rw [h.low r h1 h2 c hc] at this
    rw [show sq (fun i => T r i / s.M r n * A i c) m = sq (fun i => T r i * A i c) m * (1 / s.M r n) from by rw [← sq_mulr]; exact sq_congr fun i _ => by grind]
    rw [← this]; grind
  · have := hT r h2 n
    rw [show sq (fun i => T r i / s.M r n * A i n) m = sq (fun i => T r i * A i n) m * (1 / s.M r n) from by rw [← sq_mulr]; exact sq_congr fun i _ => by grind]
    rw [← this]; grind
/-- Never both. -/
theorem never_both {m n : Nat} {A : Mx} {x y : Nat → Rat} (hx : ∀ r, r < m → dotX n (A r) x = A r n) (hy : ∀ c, c < n → sq (fun r => y r * A r c) m = 0) (h1 : sq (fun r => y r * A r n) m = 1) : False := by
  have e1 : sq (fun r => y r * dotX n (A r) x) m = 1 := by rw [← h1]; exact sq_congr fun r hr => by rw [hx r hr]
  have e2 : sq (fun r => y r * dotX n (A r) x) m = 0 := by
    unfold dotX
    refine Eq.trans (b := sq (fun r => sq (fun c => y r * A r c * x c) n) m) (sq_congr fun r _ => by rw [← sq_mul]; exact sq_congr fun c _ => (Rat.mul_assoc _ _ _).symm) ?_
    exact Eq.trans (b := sq (fun c => sq (fun r => y r * A r c * x c) m) n) (sq_swap _ _ _) (sq_zero' fun c hc => by rw [sq_mulr, hy c hc, Rat.zero_mul])
  rw [e1] at e2
  grind
theorem ok_of_sol {m n : Nat} {A : Mx} {s : StX} (h : EchX m A n s) {x : Nat → Rat} (hx : ∀ r, r < m → dotX n (A r) x = A r n) : OkX m n s := by
  refine Classical.byContradiction fun ho => ?_
  obtain ⟨y, h1, h2⟩ := sol_none h ho
  exact never_both hx h1 h2
/-- The only solution with 0 in all columns that are no pivots. -/
theorem sol_only {m n : Nat} {A : Mx} {s : StX} (h : EchX m A n s) {x : Nat → Rat} (hx : ∀ r, r < m → dotX n (A r) x = A r n) (h0 : ∀ c, c < n → ¬ c ∈ s.ps → x c = 0) : ∀ c, c < n → x c = solX n s c := by
  obtain ⟨T, hT⟩ := h.to
  have key : ∀ r, r < m → dotX n (s.M r) x = s.M r n := fun r hr => by
    rw [dot_comb (hT r hr), hT r hr n]
    exact sq_congr fun i hi => by rw [hx i hi]
  intro c hc
  unfold solX
  by_cases e : c ∈ s.ps
  · obtain ⟨j, hjl, hjc⟩ := List.getElem_of_mem e
    rw [if_pos e, ← hjc, ps_idx h hjl, ← key j (Nat.lt_of_lt_of_le hjl h.le), dot_piv h h0 hjl]
  · rw [if_neg e, h0 c hc e]
theorem dot_ext {n : Nat} {R x y : Nat → Rat} (h : ∀ c, c < n → x c = y c) : dotX n R x = dotX n R y := sq_congr fun c hc => by rw [h c hc]
/-- Rows that are sums of multiples of each other's have the same solution. -/
theorem sol_same {m n : Nat} {A B : Mx} (h : Comb m A B) (k : Comb m B A) :
    (elimX m A n).ps = (elimX m B n).ps ∧ (OkX m n (elimX m A n) ↔ OkX m n (elimX m B n)) ∧ (OkX m n (elimX m A n) → ∀ c, c < n → solX n (elimX m A n) c = solX n (elimX m B n) c) := by
  have ea := elimX_ech m A n
  have eb := elimX_ech m B n
  have hps : (elimX m A n).ps = (elimX m B n).ps := ps_same (ker_comb h k)
  have tr : ∀ {C D : Mx} {x : Nat → Rat}, Comb m C D → (∀ r, r < m → dotX n (C r) x = C r n) → ∀ r, r < m → dotX n (D r) x = D r n := by
    intro C D x hc hx r hr
    obtain ⟨T, hT⟩ := hc
    rw [dot_comb (hT r hr), hT r hr n]
    exact sq_congr fun i hi => by rw [hx i hi]
  refine ⟨hps, ⟨fun ho => ok_of_sol eb (tr h (sol_ok ea ho)), fun ho => ok_of_sol ea (tr k (sol_ok eb ho))⟩, fun ho c hc => ?_⟩
  exact sol_only eb (tr h (sol_ok ea ho)) (fun c _ hn => sol_zero (hps ▸ hn)) c hc
/-- What does not look at more columns. -/
theorem elim_cols {m N : Nat} {A B : Mx} (h : ∀ r, r < m → ∀ c, c < N → A r c = B r c) : ∀ {n : Nat}, n ≤ N → (elimX m A n).ps = (elimX m B n).ps ∧ ∀ r, r < m → ∀ c, c < N → (elimX m A n).M r c = (elimX m B n).M r c
  | 0, _ => ⟨rfl, h⟩
  | n + 1, hn => by
    obtain ⟨h1, h2⟩ := elim_cols h (show n ≤ N by omega)
    have el := (elimX_ech m A n).le
    show (colX m (elimX m A n) n).ps = (colX m (elimX m B n) n).ps ∧ ∀ r, r < m → ∀ c, c < N → (colX m (elimX m A n) n).M r c = (colX m (elimX m B n) n).M r c
    generalize elimX m A n = s at *
    generalize elimX m B n = t at *
    have hf : ∀ j d, d + j ≤ m → findX s.M n d j = findX t.M n d j := by
      intro j
      induction j with
      | zero => intro d _; rfl
      | succ j ih => intro d hd; unfold findX; rw [h2 d (by omega) n (by omega), ih (d + 1) (by omega)]
    unfold colX
    rw [← h1, ← hf _ _ (by omega)]
    cases hfi : findX s.M n s.ps.length (m - s.ps.length) with
    | none => exact ⟨h1, h2⟩
    | some i =>
      obtain ⟨g1, g2, g3, g4⟩ := findX_some hfi
      have hi : i < m := by omega
      have hsw : ∀ r, r < m → ∀ c, c < N → swapX s.M s.ps.length i r c = swapX t.M s.ps.length i r c := by
        intro r hr c hc
        unfold swapX
        by_cases e1 : r = s.ps.length
        · rw [if_pos e1, if_pos e1]; exact h2 i hi c hc
        · rw [if_neg e1, if_neg e1]
          by_cases e2 : r = i
          · rw [if_pos e2, if_pos e2]; exact h2 _ (by omega) c hc
          · rw [if_neg e2, if_neg e2]; exact h2 r hr c hc
      refine ⟨rfl, fun r hr c hc => ?_⟩
      show stepX s.M s.ps.length i n r c = stepX t.M s.ps.length i n r c
      unfold stepX
      rw [h2 i hi c hc, h2 i hi n (by omega), hsw r hr c hc, hsw r hr n (by omega)]
theorem inc_lenX {l : List Nat} (h : l.Pairwise (· < ·)) {n : Nat} (hn : ∀ x ∈ l, x < n) : l.length ≤ n := by
  induction l generalizing n with
  | nil => simp
  | cons x l ih =>
    have h1 := List.pairwise_cons.1 h
    have hx := hn x (by simp)
    have := ih (n := n - 1 - x) 
    suffices hs : ∀ (l : List Nat) (a : Nat), l.Pairwise (· < ·) → (∀ y ∈ l, a < y ∧ y < n) → a < n → l.length ≤ n - 1 - a by
      have := hs l x h1.2 (fun y hy => ⟨h1.1 y hy, hn y (by simp [hy])⟩) hx
      simp; omega
    intro l
    induction l with
    | nil => intro a _ _ _; simp
    | cons y l ih =>
      intro a hp ha han
      have hp1 := List.pairwise_cons.1 hp
      have := ih y hp1.2 (fun z hz => ⟨hp1.1 z hz, (ha z (by simp [hz])).2⟩) (ha y (by simp)).2
      have := (ha y (by simp)).1
      have := (ha y (by simp)).2
      simp; omega
theorem rank_le (m n : Nat) (A : Mx) : (elimX m A n).ps.length ≤ m ∧ (elimX m A n).ps.length ≤ n :=
  ⟨(elimX_ech m A n).le, inc_lenX (elimX_ech m A n).inc (elimX_ech m A n).lt⟩
/-- Numbers that make a identity of a from b are at least a. -/
theorem wide_le {a b : Nat} {Q W : Mx} (h : ∀ i, i < a → ∀ j, j < a → sq (fun k => Q i k * W k j) b = if i = j then 1 else 0) : a ≤ b := by
  refine Classical.byContradiction fun hab => ?_
  have ech := elimX_ech b W a
  have hnot : ¬ ∀ k, k < a → k ∈ (elimX b W a).ps := by
    intro hall
    have h1 : ∀ k, k ≤ a → (elimX b W k).ps.length = k := by
      intro k hk
      induction k with
      | zero => rfl
      | succ k ih =>
        have i2 := ih (by omega)
        rcases elim_succ (m := b) (A := W) k with ⟨e1, _⟩ | ⟨_, m1⟩
        · rw [e1, List.length_append, i2]; rfl
        · exact absurd ((elim_mem (show k < a by omega)).1 (hall k (by omega))) m1
    have := ech.le
    have := h1 a (Nat.le_refl _)
    omega
  obtain ⟨k, hk1, hk2⟩ : ∃ k, k < a ∧ ¬ k ∈ (elimX b W a).ps := Classical.byContradiction fun hc => hnot fun k hk => Classical.byContradiction fun h2 => hc ⟨k, hk, h2⟩
  rw [elim_mem hk1] at hk2
  have hz := ech_ker (elimX_ech b W (k + 1)) hk2 hk1
  have hzk : (fun c => if c = k then (1 : Rat) else if c ∈ (elimX b W (k + 1)).ps then - (elimX b W (k + 1)).M ((elimX b W (k + 1)).ps.idxOf c) k else 0) k = 1 := if_pos rfl
  generalize (fun c => if c = k then (1 : Rat) else if c ∈ (elimX b W (k + 1)).ps then - (elimX b W (k + 1)).M ((elimX b W (k + 1)).ps.idxOf c) k else 0) = z at *
  have e1 : sq (fun j => (if k = j then 1 else 0) * z j) a = z k := by
    rw [sq_one hk1 fun i _ hne => by rw [if_neg (Ne.symm hne), Rat.zero_mul], if_pos rfl, Rat.one_mul]
  have e2 : sq (fun j => (if k = j then 1 else 0) * z j) a = 0 := by
    refine Eq.trans (b := sq (fun j => sq (fun i => Q k i * (W i j * z j)) b) a) (sq_congr fun j hj => by rw [← h k hk1 j hj, ← sq_mulr]; exact sq_congr fun i _ => Rat.mul_assoc _ _ _) ?_
    refine Eq.trans (b := sq (fun i => sq (fun j => Q k i * (W i j * z j)) a) b) (sq_swap _ _ _) ?_
    exact sq_zero' fun i hi => by
        rw [sq_mul]
        have := hz i hi
        unfold dotX at this
        rw [this, Rat.mul_zero]
  rw [e1, hzk] at e2
  grind
theorem rank_turned_le (m n : Nat) (A : Mx) : (elimX n (fun r c => A c r) m).ps.length ≤ (elimX m A n).ps.length := by
  have ea := elimX_ech m A n
  have et := elimX_ech n (fun r c => A c r) m
  obtain ⟨U, hU⟩ := ea.fro
  obtain ⟨T, hT⟩ := et.to
  generalize elimX m A n = s at *
  generalize elimX n (fun r c => A c r) m = t at *
  refine wide_le (Q := fun j i => sq (fun c => T j c * s.M i c) n) (W := fun i j => U (t.ps.getD j 0) i) fun j hj j' hj' => ?_
  have hg : t.ps.getD j' 0 = t.ps[j'] := by simp [List.getD, List.getElem?_eq_getElem hj']
  have hlt : t.ps[j'] < m := et.lt _ (List.getElem_mem hj')
  have hp := et.piv j' _ (List.getElem?_eq_getElem hj') j (Nat.lt_of_lt_of_le hj et.le)
  rw [← hp, hT j (Nat.lt_of_lt_of_le hj et.le)]
  dsimp only
  rw [hg]
  refine Eq.trans (b := sq (fun i => sq (fun c => T j c * (U t.ps[j'] i * s.M i c)) n) s.ps.length) (sq_congr fun i _ => by rw [← sq_mulr]; exact sq_congr fun c _ => by grind) ?_
  refine Eq.trans (b := sq (fun c => sq (fun i => T j c * (U t.ps[j'] i * s.M i c)) s.ps.length) n) (sq_swap _ _ _) ?_
  exact sq_congr fun c hc => by
      rw [sq_mul, hU _ hlt c, sq_le ea.le fun i h1 h2 => by rw [ea.low i h1 h2 c hc, Rat.mul_zero]]
theorem rank_turned (m n : Nat) (A : Mx) : (elimX n (fun r c => A c r) m).ps.length = (elimX m A n).ps.length :=
  Nat.le_antisymm (rank_turned_le m n A) (rank_turned_le n m fun r c => A c r)

/-- All numbers are over one small number, and small. -/
def CdX (m N e : Nat) (A : Mx) : Prop := ∃ D : Nat, 0 < D ∧ D < 2 ^ e ∧ ∀ r, r < m → ∀ c, c < N → ∃ z : Int, z.natAbs < 2 ^ e ∧ A r c = (z : Rat) / (D : Rat)
theorem CdX.mono {m N e e' : Nat} {A : Mx} (h : CdX m N e A) (he : e ≤ e') : CdX m N e' A := by
  obtain ⟨D, h0, h1, h2⟩ := h
  have hp : 2 ^ e ≤ 2 ^ e' := Nat.pow_le_pow_right (by omega) he
  exact ⟨D, h0, by omega, fun r hr c hc => by obtain ⟨z, h3, h4⟩ := h2 r hr c hc; exact ⟨z, by omega, h4⟩⟩
theorem ratne {D : Nat} (h : 0 < D) : (D : Rat) ≠ 0 := by
  intro e
  have : ((D : Nat) : Rat) = ((0 : Nat) : Rat) := e
  have := Rat.natCast_inj.1 this
  omega
theorem absmul_lt {x y : Int} {a b : Nat} (hx : x.natAbs < 2 ^ a) (hy : y.natAbs < 2 ^ b) : (x * y).natAbs < 2 ^ (a + b) := by
  rw [Int.natAbs_mul, Nat.pow_add]
  exact Nat.mul_lt_mul'' hx hy
theorem cd_num {z w x y : Int} {e : Nat} (h1 : z.natAbs < 2 ^ e) (h2 : w.natAbs < 2 ^ e) (h3 : x.natAbs < 2 ^ e) (h4 : y.natAbs < 2 ^ e) : (z * w - x * y).natAbs < 2 ^ (2 * e + 1) := by
  have a := absmul_lt h1 h2
  have b := absmul_lt h3 h4
  rw [Nat.pow_succ, show 2 * e = e + e by omega]
  generalize z * w = p at *
  generalize x * y = q at *
  generalize 2 ^ (e + e) = g at *
  omega
theorem CdX.step {m N e d i k : Nat} {M : Mx} (h : CdX m N e M) (hd : d ≤ i) (hi : i < m) (hk : k < N) (hp : M i k ≠ 0) : CdX m N (2 * e + 1) (stepX M d i k) := by
  obtain ⟨D, h0, h1, h2⟩ := h
  obtain ⟨p, hp1, hp2⟩ := h2 i hi k hk
  have hDr := ratne h0
  have hpz : p ≠ 0 := fun e => hp (by rw [hp2, e]; grind)
  have hpr : (p : Rat) ≠ 0 := fun e => hpz (by exact_mod_cast e)
  have hpn : 0 < p.natAbs := Int.natAbs_pos.2 hpz
  have hDp : D * p.natAbs < 2 ^ (2 * e + 1) := by
    have := absmul_lt (x := (D : Int)) (y := p) (a := e) (b := e) (by simpa using h1) hp1
    rw [Int.natAbs_mul, Int.natAbs_natCast] at this
    exact Nat.lt_of_lt_of_le this (Nat.pow_le_pow_right (by omega) (by omega))
  have hsw : ∀ r, r < m → ∀ c, c < N → ∃ z : Int, z.natAbs < 2 ^ e ∧ swapX M d i r c = (z : Rat) / (D : Rat) := by
    intro r hr c hc
    unfold swapX
    by_cases e1 : r = d
    · rw [if_pos e1]; exact h2 i hi c hc
    · rw [if_neg e1]
      by_cases e2 : r = i
      · rw [if_pos e2]; exact h2 d (by omega) c hc
      · rw [if_neg e2]; exact h2 r hr c hc
  have hsg : ((p.natAbs : Nat) : Rat) = (p : Rat) ∨ ((p.natAbs : Nat) : Rat) = - (p : Rat) := by
    rcases Int.natAbs_eq p with hq | hq
    · left
      have : ((p.natAbs : Int) : Rat) = (p : Rat) := congrArg _ hq.symm
      rwa [Rat.intCast_natCast] at this
    · right
      have : (((p.natAbs : Int)) : Rat) = ((-p : Int) : Rat) := congrArg _ (by omega)
      rw [Rat.intCast_natCast, Rat.intCast_neg] at this
      exact this
  refine ⟨D * p.natAbs, Nat.mul_pos h0 hpn, hDp, fun r hr c hc => ?_⟩
  have hcast : ((D * p.natAbs : Nat) : Rat) = (D : Rat) * ((p.natAbs : Nat) : Rat) := by push_cast; rfl
  rw [hcast]
  obtain ⟨zi, zi1, zi2⟩ := h2 i hi c hc
  unfold stepX
  by_cases e1 : r = d
  · rw [if_pos e1, zi2, hp2]
    have ha : (zi * D).natAbs < 2 ^ (2 * e + 1) := by
      have := absmul_lt (x := zi) (y := (D : Int)) (a := e) (b := e) zi1 (by simpa using h1)
      exact Nat.lt_of_lt_of_le this (Nat.pow_le_pow_right (by omega) (by omega))
    rcases hsg with hg | hg
    · refine ⟨zi * D, ha, ?_⟩
      rw [hg]; push_cast; grind
    · refine ⟨-(zi * D), by rw [Int.natAbs_neg]; exact ha, ?_⟩
      rw [hg]; push_cast; grind
  · rw [if_neg e1]
    obtain ⟨zr, zr1, zr2⟩ := hsw r hr c hc
    obtain ⟨zk, zk1, zk2⟩ := hsw r hr k hk
    rw [zi2, hp2, zr2, zk2]
    have hb := cd_num zr1 hp1 zi1 zk1
    rcases hsg with hg | hg
    · refine ⟨zr * p - zi * zk, hb, ?_⟩
      rw [hg]; push_cast; grind
    · refine ⟨-(zr * p - zi * zk), by rw [Int.natAbs_neg]; exact hb, ?_⟩
      rw [hg]; push_cast; grind
theorem CdX.elim {m N e : Nat} {A : Mx} (h : CdX m N e A) : ∀ {n : Nat}, n ≤ N → CdX m N (2 ^ (elimX m A n).ps.length * (e + 1) - 1) (elimX m A n).M
  | 0, _ => by simpa [elimX] using h
  | n + 1, hn => by
    have ih := h.elim (show n ≤ N by omega)
    have el := (elimX_ech m A n).le
    show CdX m N (2 ^ (colX m (elimX m A n) n).ps.length * (e + 1) - 1) (colX m (elimX m A n) n).M
    generalize elimX m A n = s at *
    unfold colX
    cases hf : findX s.M n s.ps.length (m - s.ps.length) with
    | none => exact ih
    | some i =>
      obtain ⟨h1, h2, h3, h4⟩ := findX_some hf
      have := ih.step h1 (show i < m by omega) (show n < N by omega) h3
      refine this.mono ?_
      have hpos : 0 < 2 ^ s.ps.length * (e + 1) := Nat.mul_pos (Nat.pow_pos (by omega)) (by omega)
      show _ ≤ 2 ^ (s.ps ++ [n]).length * (e + 1) - 1
      rw [List.length_append, List.length_singleton, Nat.pow_succ, Nat.mul_right_comm]
      omega
end Go.Proofs.Ytokffagbdfhnnaa
