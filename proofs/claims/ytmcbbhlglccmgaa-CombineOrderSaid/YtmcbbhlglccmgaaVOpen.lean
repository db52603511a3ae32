import Derived.Test.YtmcbbhlglccmgaaBase
import Derived.ProofKit
import Derived.OpenShut
import Derived.Deep.Slices
import Derived.Lib.SmallJoins
import Derived.Test.YtmcbbhlglccmgaaV1
namespace Go.Proofs.Ytmcbbhlglccmgaa
open Go.RowKit Go Go.Deep Go.WideShapes Go.ChangeShapes
set_option maxRecDepth 100000

section
variable {H : Type} {enc : TypeId × Value → H} {P : Program} {w : World} {base : Nat} {held : Bool}

/-- A slice that came in reads as a list, its elements by whatever reading each has. -/
theorem slOf_of_trod {α : Type} [Inhabited α] {R : World → Value → α → Prop} {t e : TypeId} {fuel : Nat} {v : Value} {x : DataW H × List MemPlace} (ht : P.underlying t = some (.slice e)) (hc : P.cellsOf e = 1)
    (hR : ∀ n u y, DataW.trod enc P w base (fun _ => true) held n e [u] = some y → ∃ z, R w u z) (h : DataW.trod enc P w base (fun _ => true) held fuel t [v] = some x) :
    ∃ a l cap, v = .slice a (List.length l) cap ∧ SlOf R w a cap l := by
  rcases open_slice1 ht hc h with ⟨hcs, _⟩ | ⟨a, len, cap, m, n, V, D, Pl, hcs, hb, hl, hm, hmm, _, hx⟩
  · simp only [List.cons.injEq, and_true] at hcs
    subst hcs
    exact ⟨none, [], 0, rfl, ⟨Nat.le_refl _, by omega, fun _ => rfl, fun A hA => by cases hA⟩⟩
  · simp only [List.cons.injEq, and_true] at hcs
    subst hcs
    simp only [if_true] at hmm
    obtain ⟨f, hf⟩ := choose_lt (α := α) (n := m) (p := fun i z => R w (V i) z) (fun i hi => hR n (V i) _ (hx i hi).2)
    refine ⟨some a, (List.range len).map f, cap, by simp, ⟨by simpa using hl, by unfold maxLen at hm; omega, fun h => by (cases h), fun A hA i hi => ?_⟩⟩
    cases hA
    simp only [List.length_map, List.length_range] at hi
    have hc0 := (hx i (by omega)).1
    have hs : a.spot = none := by
      have := World.cell?_spot (hx 0 (by omega)).1
      unfold Addr.add at this
      simpa using this
    refine ⟨hs, V i, ?_, by simpa using hf i (by omega)⟩
    obtain ⟨b, o, s⟩ := a
    simp only at hs
    subst hs
    rw [← hc0]
    congr 1
    unfold Addr.add
    split <;> simp_all

theorem isInt_of_trod {t : TypeId} (ht : P.underlying t = some (.int .i64)) (n : Nat) (u : Value) (y : DataW H × List MemPlace) (h : DataW.trod enc P w base (fun _ => true) held n t [u] = some y) : ∃ z, IsInt w u z := by
  obtain ⟨x, h1, _, hw⟩ := DataW.trod_int ht h
  simp only [List.cons.injEq, and_true] at h1
  refine ⟨x, h1, ?_⟩
  have := bounds_i64 hw
  exact ⟨this.1, this.2⟩
theorem isBool_of_trod {t : TypeId} (ht : P.underlying t = some .bool) (n : Nat) (u : Value) (y : DataW H × List MemPlace) (h : DataW.trod enc P w base (fun _ => true) held n t [u] = some y) : ∃ z, IsBool w u z := by
  obtain ⟨b, h1, _⟩ := DataW.trod_bool ht h
  simp only [List.cons.injEq, and_true] at h1
  exact ⟨b, h1⟩
theorem isInts_of_trod {t e : TypeId} (ht : P.underlying t = some (.slice e)) (he : P.underlying e = some (.int .i64)) (hc : P.cellsOf e = 1) (n : Nat) (u : Value) (y : DataW H × List MemPlace)
    (h : DataW.trod enc P w base (fun _ => true) held n t [u] = some y) : ∃ z, IsInts w u z := by
  obtain ⟨a, l, cap, h1, h2⟩ := slOf_of_trod (R := IsInt) ht hc (fun n u y h => isInt_of_trod he n u y h) h
  exact ⟨l, a, cap, h1, h2⟩
theorem isBools_of_trod {t e : TypeId} (ht : P.underlying t = some (.slice e)) (he : P.underlying e = some .bool) (hc : P.cellsOf e = 1) (n : Nat) (u : Value) (y : DataW H × List MemPlace)
    (h : DataW.trod enc P w base (fun _ => true) held n t [u] = some y) : ∃ z, IsBools w u z := by
  obtain ⟨a, l, cap, h1, h2⟩ := slOf_of_trod (R := IsBool) ht hc (fun n u y h => isBool_of_trod he n u y h) h
  exact ⟨l, a, cap, h1, h2⟩

open Go.Joins
theorem open_rows {v : Value} {d : DataW H} {p : List MemPlace} {r : Reach} {b0 : Nat} (hv : Value.okWide Try.prog w r b0 22 v) (h : DataW.Trod enc Try.prog w base (fun _ => true) held 22 v d p) :
    ∃ (a : Option Addr) (cap : Nat) (l : List (List Int)), v = .slice a l.length cap ∧ Rows w a cap l := by
  obtain ⟨a0, n0, c0, rfl⟩ := okWide_slice Try.underlying22 hv
  obtain ⟨fuel, hf⟩ := h
  obtain ⟨a, l, cap, e, hl⟩ := slOf_of_trod (R := IsInts) Try.underlying22 (by kernel_rfl) (fun n u y h => isInts_of_trod Try.underlying27 Try.underlying3 (by kernel_rfl) n u y h) hf
  exact ⟨a, cap, l, e, hl⟩
theorem open_ints1 {v : Value} {d : DataW H} {p : List MemPlace} {r : Reach} {b0 : Nat} (hv : Value.okWide Try.prog w r b0 27 v) (h : DataW.Trod enc Try.prog w base (fun _ => true) held 27 v d p) :
    ∃ (a : Option Addr) (cap : Nat) (l : List Int), v = .slice a l.length cap ∧ Ints w a cap l := by
  obtain ⟨a0, n0, c0, rfl⟩ := okWide_slice Try.underlying27 hv
  obtain ⟨fuel, hf⟩ := h
  obtain ⟨a, l, cap, e, hl⟩ := slOf_of_trod (R := IsInt) Try.underlying27 (by kernel_rfl) (fun n u y h => isInt_of_trod Try.underlying3 n u y h) hf
  exact ⟨a, cap, l, e, hl⟩
theorem open_i64 {v : Value} {d : DataW H} {p : List MemPlace} {r : Reach} {b0 : Nat} (hv : Value.okWide Try.prog w r b0 3 v) (h : DataW.Trod enc Try.prog w base (fun _ => true) held 3 v d p) :
    ∃ n : Int, v = .int .i64 n ∧ -9223372036854775808 ≤ n ∧ n ≤ 9223372036854775807 := by
  obtain ⟨a, rfl, _, _, hw⟩ := open_int Try.underlying3 hv h
  exact ⟨a, rfl, bounds_i64 hw⟩
theorem open_u8 {v : Value} {d : DataW H} {p : List MemPlace} {r : Reach} {b0 : Nat} (hv : Value.okWide Try.prog w r b0 5 v) (h : DataW.Trod enc Try.prog w base (fun _ => true) held 5 v d p) :
    ∃ n : Int, v = .int .u8 n ∧ 0 ≤ n ∧ n ≤ 255 := by
  obtain ⟨a, rfl, _, _, hw⟩ := open_int Try.underlying5 hv h
  exact ⟨a, rfl, bounds_u8 hw⟩
end
end Go.Proofs.Ytmcbbhlglccmgaa

namespace Go.Proofs.Ytmcbbhlglccmgaa
open Go.RowKit Go Go.Deep Go.WideShapes Go.ChangeShapes
set_option maxRecDepth 100000

/-! A criterion that came in. -/
section
variable {H : Type} {enc : TypeId × Value → H} {P : Program} {w : World} {base : Nat} {held : Bool}
theorem array7 {α : Type} {cs : Array α} (h : cs.size = 7) : ∃ c0 c1 c2 c3 c4 c5 c6, cs = #[c0, c1, c2, c3, c4, c5, c6] := by
  obtain ⟨l⟩ := cs
  match l, h with
  | [c0, c1, c2, c3, c4, c5, c6], _ => exact ⟨c0, c1, c2, c3, c4, c5, c6, rfl⟩
theorem isStr_of_trod {t : TypeId} (ht : P.underlying t = some .string) (n : Nat) (u : Value) (y : DataW H × List MemPlace) (h : DataW.trod enc P w base (fun _ => true) held n t [u] = some y) : ∃ s, u = .string s := by
  obtain ⟨b, h1, _⟩ := DataW.trod_string ht h
  simp only [List.cons.injEq, and_true] at h1
  exact ⟨b, h1⟩
open Go.Joins
theorem open_agg7 {r : Reach} {b0 : Nat} {t : TypeId} {f0 f1 f2 f3 f4 f5 f6 : Field} {v : Value} {d : DataW H} {p : List MemPlace} (hs : P.underlying t = some (.struct #[f0, f1, f2, f3, f4, f5, f6])) (hone : oneCellFields P #[f0, f1, f2, f3, f4, f5, f6] = true) (hC : P.cellsOf t = 7)
    (hv : Value.okWide P w r b0 t v) (h : DataW.Trod enc P w base (fun _ => true) held t v d p) :
    ∃ (v0 v1 v2 v3 v4 v5 v6 : Value) (y0 y1 y2 y3 y4 y5 y6 : DataW H × List MemPlace) (n : Nat), v = .agg #[v0, v1, v2, v3, v4, v5, v6] ∧
      DataW.trod enc P w base (fun _ => true) held n f0.type [v0] = some y0 ∧ DataW.trod enc P w base (fun _ => true) held n f1.type [v1] = some y1 ∧ DataW.trod enc P w base (fun _ => true) held n f2.type [v2] = some y2 ∧ DataW.trod enc P w base (fun _ => true) held n f3.type [v3] = some y3 ∧
      DataW.trod enc P w base (fun _ => true) held n f4.type [v4] = some y4 ∧ DataW.trod enc P w base (fun _ => true) held n f5.type [v5] = some y5 ∧ DataW.trod enc P w base (fun _ => true) held n f6.type [v6] = some y6 := by
  obtain ⟨cs, rfl, hsz⟩ := okWide_struct hs hv
  obtain ⟨c0, c1, c2, c3, c4, c5, c6, rfl⟩ := array7 (hsz.trans hC)
  obtain ⟨fuel, hf⟩ := h
  obtain ⟨xs, n, _, _, hl, hlen, hf⟩ := DataW.trod_struct hs hf
  obtain ⟨o0, k0⟩ := hone_of hone 0 f0 rfl
  obtain ⟨o1, k1⟩ := hone_of hone 1 f1 rfl
  obtain ⟨o2, k2⟩ := hone_of hone 2 f2 rfl
  obtain ⟨o3, k3⟩ := hone_of hone 3 f3 rfl
  obtain ⟨o4, k4⟩ := hone_of hone 4 f4 rfl
  obtain ⟨o5, k5⟩ := hone_of hone 5 f5 rfl
  obtain ⟨o6, k6⟩ := hone_of hone 6 f6 rfl
  match xs, hlen with
  | [y0, y1, y2, y3, y4, y5, y6], _ =>
    have h0 := hf 0 f0 rfl
    have h1 := hf 1 f1 rfl
    have h2 := hf 2 f2 rfl
    have h3 := hf 3 f3 rfl
    have h4 := hf 4 f4 rfl
    have h5 := hf 5 f5 rfl
    have h6 := hf 6 f6 rfl
    exact ⟨c0, c1, c2, c3, c4, c5, c6, y0, y1, y2, y3, y4, y5, y6, n, rfl, by simpa [Value.cells, o0, k0] using h0, by simpa [Value.cells, o1, k1] using h1, by simpa [Value.cells, o2, k2] using h2, by simpa [Value.cells, o3, k3] using h3, by simpa [Value.cells, o4, k4] using h4, by simpa [Value.cells, o5, k5] using h5, by simpa [Value.cells, o6, k6] using h6⟩
theorem open_crit {v : Value} {d : DataW H} {p : List MemPlace} {r : Reach} {b0 : Nat} (hv : Value.okWide Try.prog w r b0 48 v) (h : DataW.Trod enc Try.prog w base (fun _ => true) held 48 v d p) :
    ∃ c : CritA, v = c.val ∧ c.In := by
  obtain ⟨v0, v1, v2, v3, v4, v5, v6, y0, y1, y2, y3, y4, y5, y6, n, rfl, h0, h1, h2, h3, h4, h5, h6⟩ := open_agg7 Try.underlying48 (by kernel_rfl) (by kernel_rfl) hv h
  obtain ⟨s, rfl⟩ := isStr_of_trod (w := w) Try.underlying9 _ _ _ h0
  obtain ⟨lo, rfl, b1⟩ := isInt_of_trod (w := w) Try.underlying3 _ _ _ h1
  obtain ⟨hi, rfl, b2⟩ := isInt_of_trod (w := w) Try.underlying3 _ _ _ h2
  obtain ⟨st, rfl, b3⟩ := isInt_of_trod (w := w) Try.underlying3 _ _ _ h3
  obtain ⟨how, rfl, b4⟩ := isInt_of_trod (w := w) Try.underlying3 _ _ _ h4
  obtain ⟨tr, rfl, b5⟩ := isInt_of_trod (w := w) Try.underlying3 _ _ _ h5
  obtain ⟨rv, rfl⟩ := isBool_of_trod (w := w) Try.underlying4 _ _ _ h6
  exact ⟨⟨s, lo, hi, st, how, tr, rv⟩, rfl, b1, b2, b3, b4, b5⟩
end
end Go.Proofs.Ytmcbbhlglccmgaa

