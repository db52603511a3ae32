import Derived.Test.YtokffagbdfhnnaaQ3
namespace Go.Proofs.Ytokffagbdfhnnaa
open Go.RowKit Go BigFrame
set_option maxRecDepth 100000
set_option linter.unusedSimpArgs false
set_option linter.unusedVariables false

/-! How slices of ratios read that came in. -/
/-- The parts of a ratio, in memory. -/
structure RatI (w : World) (x : RatA) : Prop where
  i : Ints w x.a x.c x.l
  j : Ints w x.b x.d x.m
theorem RatI.ext {w w' : World} {x : RatA} (h : RatI w x) (k : Ext w w') : RatI w' x := ⟨h.i.ext k, h.j.ext k⟩
/-- A slice of ratios that came in, valid or not. -/
structure RatsI (w : World) (a : Option Addr) (cap : Nat) (L : List RatA) : Prop where
  le : L.length ≤ cap
  mx : cap ≤ 9223372036854775807
  nil : a = none → cap = 0
  cells : ∀ A, a = some A → ∀ i (h : i < L.length), A.spot = none ∧ w.cell? ⟨A.block, A.off + i * 4, none⟩ = some (.bool L[i].n) ∧ w.cell? ⟨A.block, A.off + i * 4 + 1, none⟩ = some (.slice L[i].a L[i].l.length L[i].c) ∧
    w.cell? ⟨A.block, A.off + i * 4 + 2, none⟩ = some (.bool L[i].n2) ∧ w.cell? ⟨A.block, A.off + i * 4 + 3, none⟩ = some (.slice L[i].b L[i].m.length L[i].d)
  ints : ∀ i (h : i < L.length), RatI w L[i]
theorem RatsI.ext {w w' : World} {a : Option Addr} {cap : Nat} {L : List RatA} (h : RatsI w a cap L) (k : Ext w w') : RatsI w' a cap L :=
  ⟨h.le, h.mx, h.nil, fun A hA i hi => by
    obtain ⟨h0, h1, h2, h3, h4⟩ := h.cells A hA i hi
    exact ⟨h0, cell_exQ k h1, cell_exQ k h2, cell_exQ k h3, cell_exQ k h4⟩, fun i hi => (h.ints i hi).ext k⟩
theorem RatsI.head {w : World} {a : Option Addr} {cap : Nat} {L : List RatA} (h : RatsI w a cap L) {i : Nat} (hi : i < L.length) : ∃ b o, a = some ⟨b, o, none⟩ := by
  cases a with
  | none => have := h.nil rfl; have := h.le; omega
  | some A =>
    obtain ⟨h0, _⟩ := h.cells A rfl i hi
    obtain ⟨b, o, s⟩ := A
    simp only at h0
    exact ⟨b, o, by rw [h0]⟩
theorem RatsI.get {w : World} {b o cap : Nat} {L : List RatA} (h : RatsI w (some ⟨b, o, none⟩) cap L) {i : Nat} (hi : i < L.length) :
    ∃ n a c l n2 b' d m, L[i]? = some ⟨n, a, c, l, n2, b', d, m⟩ ∧ w.cell? ⟨b, o + i * 4, none⟩ = some (.bool n) ∧ w.cell? ⟨b, o + i * 4 + 1, none⟩ = some (.slice a l.length c) ∧
      w.cell? ⟨b, o + i * 4 + 2, none⟩ = some (.bool n2) ∧ w.cell? ⟨b, o + i * 4 + 3, none⟩ = some (.slice b' m.length d) ∧ Ints w a c l ∧ Ints w b' d m := by
  obtain ⟨_, h1, h2, h3, h4⟩ := h.cells _ rfl i hi
  have hr := h.ints i hi
  exact ⟨L[i].n, L[i].a, L[i].c, L[i].l, L[i].n2, L[i].b, L[i].d, L[i].m, List.getElem?_eq_getElem hi, h1, h2, h3, h4, hr.i, hr.j⟩
/-- All of them are valid, and these are their values. -/
def ValL (L : List RatA) (S : List Rat) (k : Nat) : Prop := L.length = S.length ∧ ∀ (i : Nat) (x : RatA) (r : Rat), L[i]? = some x → S[i]? = some r → Sz r k ∧ ∀ w, RatI w x → RatV w x.val r
theorem RatsI.val {w : World} {b o cap : Nat} {L : List RatA} {S : List Rat} {k : Nat} (h : RatsI w (some ⟨b, o, none⟩) cap L) (hv : ValL L S k) {i : Nat} (hi : i < S.length) :
    ∃ n a q c n2 b' k' d, w.cell? ⟨b, o + i * 4, none⟩ = some (.bool n) ∧ w.cell? ⟨b, o + i * 4 + 1, none⟩ = some (.slice a q c) ∧ w.cell? ⟨b, o + i * 4 + 2, none⟩ = some (.bool n2) ∧ w.cell? ⟨b, o + i * 4 + 3, none⟩ = some (.slice b' k' d) ∧
      RatV w (.agg #[.bool n, .slice a q c, .bool n2, .slice b' k' d]) S[i] ∧ Sz S[i] k := by
  have hi' : i < L.length := by rw [hv.1]; exact hi
  obtain ⟨_, h1, h2, h3, h4⟩ := h.cells _ rfl i hi'
  obtain ⟨hz, hr⟩ := hv.2 i _ _ (List.getElem?_eq_getElem hi') (List.getElem?_eq_getElem hi)
  exact ⟨_, _, _, _, _, _, _, _, h1, h2, h3, h4, hr w (h.ints i hi'), hz⟩
end Go.Proofs.Ytokffagbdfhnnaa
