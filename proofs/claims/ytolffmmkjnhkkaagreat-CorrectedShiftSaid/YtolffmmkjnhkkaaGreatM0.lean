import Derived.Test.YtolffmmkjnhkkaaGreatMroot
namespace Go.Proofs.YtolffmmkjnhkkaaGreat
open Go.RowKit Go BigFrame Go.Shelf
set_option maxRecDepth 100000
set_option linter.unusedSimpArgs false
set_option linter.unusedVariables false

/-! Layer 40: how slices of ratios read. -/
/-- A slice of ratios that came in, valid or not. -/
structure RatsI (w : World) (a : Option Addr) (cap : Nat) (L : List RatA) : Prop where
  le : L.length ≤ cap
  mx : cap ≤ 9223372036854775807
  nil : a = none → cap = 0
  cells : ∀ A, a = some A → ∀ i (h : i < L.length), A.spot = none ∧ w.cell? ⟨A.block, A.off + i * 4, none⟩ = some (.bool L[i].n) ∧ w.cell? ⟨A.block, A.off + i * 4 + 1, none⟩ = some (.slice L[i].a L[i].l.length L[i].c) ∧
    w.cell? ⟨A.block, A.off + i * 4 + 2, none⟩ = some (.bool L[i].n2) ∧ w.cell? ⟨A.block, A.off + i * 4 + 3, none⟩ = some (.slice L[i].b L[i].m.length L[i].d)
  ints : ∀ i (h : i < L.length), RatI w L[i]
theorem RatsI.ext {w w' : World} {a : Option Addr} {cap : Nat} {L : List RatA} (h : RatsI w a cap L) (k : Ext w w') : RatsI w' a cap L :=
  ⟨h.le, h.mx, h.nil, fun A hA i hi => by
    obtain ⟨h0, h1, h2, h3, h4⟩ := h.cells A hA i hi
    exact ⟨h0, cell_exQ k h1, cell_exQ k h2, cell_exQ k h3, cell_exQ k h4⟩, fun i hi => (h.ints i hi).ext k⟩
theorem RatsI.head {w : World} {a : Option Addr} {cap : Nat} {L : List RatA} (h : RatsI w a cap L) {i : Nat} (hi : i < L.length) : ∃ b o, a = some ⟨b, o, none⟩ := by
  cases a with
  | none => have := h.nil rfl; have := h.le; omega
  | some A =>
    obtain ⟨h0, _⟩ := h.cells A rfl i hi
    obtain ⟨b, o, s⟩ := A
    simp only at h0
    exact ⟨b, o, by rw [h0]⟩
theorem RatsI.get {w : World} {b o cap : Nat} {L : List RatA} (h : RatsI w (some ⟨b, o, none⟩) cap L) {i : Nat} (hi : i < L.length) :
    ∃ n a c l n2 b' d m, L[i]? = some ⟨n, a, c, l, n2, b', d, m⟩ ∧ w.cell? ⟨b, o + i * 4, none⟩ = some (.bool n) ∧ w.cell? ⟨b, o + i * 4 + 1, none⟩ = some (.slice a l.length c) ∧
      w.cell? ⟨b, o + i * 4 + 2, none⟩ = some (.bool n2) ∧ w.cell? ⟨b, o + i * 4 + 3, none⟩ = some (.slice b' m.length d) ∧ Ints w a c l ∧ Ints w b' d m := by
  obtain ⟨_, h1, h2, h3, h4⟩ := h.cells _ rfl i hi
  have hr := h.ints i hi
  exact ⟨L[i].n, L[i].a, L[i].c, L[i].l, L[i].n2, L[i].b, L[i].d, L[i].m, List.getElem?_eq_getElem hi, h1, h2, h3, h4, hr.i, hr.j⟩
/-- All of them are valid, and these are their values. -/
def ValL (L : List RatA) (S : List Rat) (k : Nat) : Prop := L.length = S.length ∧ ∀ (i : Nat) (x : RatA) (r : Rat), L[i]? = some x → S[i]? = some r → Sz r k ∧ ∀ w, RatI w x → RatV w x.val r
theorem few4_sz {x : RatA} (ho : x.ok = true) (hf : (fewQ x.l.length 4 && fewQ x.m.length 4) = true) : ∃ r : Rat, Sz r 4 ∧ ∀ w, RatI w x → RatV w x.val r := by
  obtain ⟨r, h1, h2, h3, h4, h5, h6⟩ := okR_rat ho
  unfold fewQ at hf
  simp only [Bool.and_eq_true, Bool.or_eq_true, decide_eq_true_eq] at hf
  have m1 : (1073741824 : Nat) ^ x.l.length ≤ 1073741824 ^ 4 := Nat.pow_le_pow_right (by omega) (by omega)
  have m2 : (1073741824 : Nat) ^ x.m.length ≤ 1073741824 ^ 4 := Nat.pow_le_pow_right (by omega) (by omega)
  exact ⟨r, ⟨Nat.lt_of_lt_of_le h3 m1, Nat.lt_of_lt_of_le h4 m2⟩, fun w hi => ok_val hi.i hi.j h1 h2⟩
def few4 (L : List RatA) : Bool := L.all fun x => fewQ x.l.length 4 && fewQ x.m.length 4
theorem valL_of {L : List RatA} (ho : L.any (fun x => !x.ok) = false) (hf : few4 L = true) : ∃ S, ValL L S 4 := by
  induction L with
  | nil => exact ⟨[], rfl, fun i x r h => by simp at h⟩
  | cons x L ih =>
    unfold few4 at hf ih
    simp only [List.any_cons, Bool.or_eq_false_iff, List.all_cons, Bool.and_eq_true, Bool.not_eq_false'] at ho hf ih
    obtain ⟨r, h1, h2⟩ := few4_sz ho.1 (by rw [Bool.and_eq_true]; exact hf.1)
    obtain ⟨S, h3, h4⟩ := ih (by simpa using ho.2) (by simpa using hf.2)
    refine ⟨r :: S, by simp [h3], fun i y s hy hs => ?_⟩
    cases i with
    | zero =>
      simp only [List.getElem?_cons_zero, Option.some.injEq] at hy hs
      subst hy hs
      exact ⟨h1, h2⟩
    | succ i =>
      simp only [List.getElem?_cons_succ] at hy hs
      exact h4 i y s hy hs
theorem RatsI.val {w : World} {b o cap : Nat} {L : List RatA} {S : List Rat} {k : Nat} (h : RatsI w (some ⟨b, o, none⟩) cap L) (hv : ValL L S k) {i : Nat} (hi : i < S.length) :
    ∃ n a q c n2 b' k' d, w.cell? ⟨b, o + i * 4, none⟩ = some (.bool n) ∧ w.cell? ⟨b, o + i * 4 + 1, none⟩ = some (.slice a q c) ∧ w.cell? ⟨b, o + i * 4 + 2, none⟩ = some (.bool n2) ∧ w.cell? ⟨b, o + i * 4 + 3, none⟩ = some (.slice b' k' d) ∧
      RatV w (.agg #[.bool n, .slice a q c, .bool n2, .slice b' k' d]) S[i] ∧ Sz S[i] k := by
  have hi' : i < L.length := by rw [hv.1]; exact hi
  obtain ⟨_, h1, h2, h3, h4⟩ := h.cells _ rfl i hi'
  obtain ⟨hz, hr⟩ := hv.2 i _ _ (List.getElem?_eq_getElem hi') (List.getElem?_eq_getElem hi)
  exact ⟨_, _, _, _, _, _, _, _, h1, h2, h3, h4, hr w (h.ints i hi'), hz⟩
end Go.Proofs.YtolffmmkjnhkkaaGreat
