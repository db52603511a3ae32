/- MatrixTurned: the Go law returns true at every input, and its arguments read as before. -/
import Derived.Test.YtokffagbdfhnnaaBase
import Derived.ProofKit
import Derived.OpenShut
import Derived.Deep.Slices
import Derived.Lib.SmallJoins
import Derived.ChangeMaps5
import Derived.Test.YtokffagbdfhnnaaU6
import Derived.KernelRfl
import Derived.Test.YtokffagbdfhnnaaRows
import Derived.Test.YtokffagbdfhnnaaUR3
import Derived.ShutString
import Derived.ChangeOld
import Derived.Below
namespace Go.Proofs.Ytokffagbdfhnnaa
open Go.RowKit Go Go.Deep Go.WideShapes Go.ChangeShapes
set_option maxRecDepth 100000

section
variable {H : Type} {enc : TypeId × Value → H} {P : Program} {w : World} {base : Nat} {held : Bool}

/-- A slice that came in reads as a list, its elements by whatever reading each has. -/
theorem slOf_of_trod {α : Type} [Inhabited α] {R : World → Value → α → Prop} {t e : TypeId} {fuel : Nat} {v : Value} {x : DataW H × List MemPlace} (ht : P.underlying t = some (.slice e)) (hc : P.cellsOf e = 1)
    (hR : ∀ n u y, DataW.trod enc P w base (fun _ => true) held n e [u] = some y → ∃ z, R w u z) (h : DataW.trod enc P w base (fun _ => true) held fuel t [v] = some x) :
    ∃ a l cap, v = .slice a (List.length l) cap ∧ SlOf R w a cap l := by
  rcases open_slice1 ht hc h with ⟨hcs, _⟩ | ⟨a, len, cap, m, n, V, D, Pl, hcs, hb, hl, hm, hmm, _, hx⟩
  · simp only [List.cons.injEq, and_true] at hcs
    subst hcs
    exact ⟨none, [], 0, rfl, ⟨Nat.le_refl _, by omega, fun _ => rfl, fun A hA => by cases hA⟩⟩
  · simp only [List.cons.injEq, and_true] at hcs
    subst hcs
    simp only [if_true] at hmm
    obtain ⟨f, hf⟩ := choose_lt (α := α) (n := m) (p := fun i z => R w (V i) z) (fun i hi => hR n (V i) _ (hx i hi).2)
    refine ⟨some a, (List.range len).map f, cap, by simp, ⟨by simpa using hl, by unfold maxLen at hm; omega, fun h => by (cases h), fun A hA i hi => ?_⟩⟩
    cases hA
    simp only [List.length_map, List.length_range] at hi
    have hc0 := (hx i (by omega)).1
    have hs : a.spot = none := by
      have := World.cell?_spot (hx 0 (by omega)).1
      unfold Addr.add at this
      simpa using this
    refine ⟨hs, V i, ?_, by simpa using hf i (by omega)⟩
    obtain ⟨b, o, s⟩ := a
    simp only at hs
    subst hs
    rw [← hc0]
    congr 1
    unfold Addr.add
    split <;> simp_all

theorem isInt_of_trod {t : TypeId} (ht : P.underlying t = some (.int .i64)) (n : Nat) (u : Value) (y : DataW H × List MemPlace) (h : DataW.trod enc P w base (fun _ => true) held n t [u] = some y) : ∃ z, IsInt w u z := by
  obtain ⟨x, h1, _, hw⟩ := DataW.trod_int ht h
  simp only [List.cons.injEq, and_true] at h1
  refine ⟨x, h1, ?_⟩
  have := bounds_i64 hw
  exact ⟨this.1, this.2⟩
theorem isBool_of_trod {t : TypeId} (ht : P.underlying t = some .bool) (n : Nat) (u : Value) (y : DataW H × List MemPlace) (h : DataW.trod enc P w base (fun _ => true) held n t [u] = some y) : ∃ z, IsBool w u z := by
  obtain ⟨b, h1, _⟩ := DataW.trod_bool ht h
  simp only [List.cons.injEq, and_true] at h1
  exact ⟨b, h1⟩
open Go.Joins
theorem open_u8 {v : Value} {d : DataW H} {p : List MemPlace} {r : Reach} {b0 : Nat} (hv : Value.okWide Try.prog w r b0 5 v) (h : DataW.Trod enc Try.prog w base (fun _ => true) held 5 v d p) :
    ∃ n : Int, v = .int .u8 n ∧ 0 ≤ n ∧ n ≤ 255 := by
  obtain ⟨a, rfl, _, _, hw⟩ := open_int Try.underlying5 hv h
  exact ⟨a, rfl, bounds_u8 hw⟩
theorem big_trod {n : Nat} {u v : Value} {y : DataW H × List MemPlace} (h : DataW.trod enc Try.prog w base (fun _ => true) true n 36 [u, v] = some y) : ∃ (neg : Bool) (a : Option Addr) (cap : Nat) (l : List Int), u = .bool neg ∧ v = .slice a l.length cap ∧ Ints w a cap l := by
  obtain ⟨y0, y1, k, hx, _, h0, h1⟩ := trod_struct2 Try.underlying36 h
  rw [show Try.prog.cellsOf 4 = 1 by kernel_rfl] at h0
  rw [show Try.prog.cellsOf 34 = 1 by kernel_rfl] at h1
  obtain ⟨neg, rfl⟩ := isBool_of_trod (w := w) Try.underlying4 _ _ _ h0
  obtain ⟨a, l, cap, rfl, hl⟩ := slOf_of_trod (R := IsInt) Try.underlying34 (by kernel_rfl) (fun n u y h => isInt_of_trod Try.underlying3 n u y h) h1
  exact ⟨neg, a, cap, l, rfl, rfl, hl⟩
theorem add_none {a : Addr} {n : Nat} (h : a.spot = none) : a.add n = ⟨a.block, a.off + n, none⟩ := by
  obtain ⟨b, o, s⟩ := a
  simp only at h
  subst h
  unfold Addr.add
  split <;> simp_all
theorem add_zeroM (x : Addr) : x.add 0 = x := by
  obtain ⟨b, o, s⟩ := x
  unfold Addr.add
  split <;> simp_all
instance : Inhabited RatA := ⟨⟨false, none, 0, [], false, none, 0, []⟩⟩
theorem isRats_of_trod (fuel : Nat) (u : Value) (y : DataW H × List MemPlace) (hf : DataW.trod enc Try.prog w base (fun _ => true) true fuel 23 [u] = some y) : ∃ L, IsRats w u L := by
  rcases open_slice Try.underlying23 hf with ⟨hcs, _⟩ | ⟨a, len, cap, m, n, D, Pl, hcs, hb, hl, hm, hmm, _, hx⟩
  · simp only [List.cons.injEq, and_true] at hcs
    rw [hcs]
    exact ⟨[], none, 0, rfl, ⟨Nat.le_refl _, by omega, fun _ => rfl, (fun A hA => by cases hA), fun i h => absurd h (by simp)⟩⟩
  · simp only [List.cons.injEq, and_true] at hcs
    rw [hcs]
    simp only [if_true] at hmm
    rw [show Try.prog.cellsOf 38 = 4 by kernel_rfl] at hx
    have one : ∀ i, i < m → ∃ x : RatA, w.cell? (a.add (i * 4)) = some (.bool x.n) ∧ w.cell? ((a.add (i * 4)).add 1) = some (.slice x.a x.l.length x.c) ∧ w.cell? ((a.add (i * 4)).add 2) = some (.bool x.n2) ∧ w.cell? ((a.add (i * 4)).add 3) = some (.slice x.b x.m.length x.d) ∧ RatI w x := fun i hi => by
      obtain ⟨cs', h1, h2⟩ := hx i hi
      obtain ⟨_, hlen, hc⟩ := World.cells?_some h1
      match cs', hlen with
      | [c0, c1, c2, c3], _ =>
        obtain ⟨y0, y1, k, hxx, _, h0, h1⟩ := trod_struct2 Try.underlying38 h2
        rw [show Try.prog.cellsOf 36 = 2 by kernel_rfl] at h0 h1
        obtain ⟨n1, a1, ca, l1, rfl, rfl, hi1⟩ := big_trod (u := c0) (v := c1) h0
        obtain ⟨n2, b1, cb, l2, rfl, rfl, hj1⟩ := big_trod (u := c2) (v := c3) h1
        refine ⟨⟨n1, a1, ca, l1, n2, b1, cb, l2⟩, ?_, hc 1 (by omega), hc 2 (by omega), hc 3 (by omega), hi1, hj1⟩
        have e := hc 0 (by omega)
        rw [add_zeroM] at e
        exact e
    obtain ⟨f, hf⟩ := choose_lt one
    refine ⟨(List.range len).map f, some a, cap, by simp, ⟨by simpa using hl, by unfold maxLen at hm; omega, fun h => by (cases h), fun A hA i hi => ?_, fun i hi => ?_⟩⟩
    · cases hA
      simp only [List.length_map, List.length_range] at hi
      have hs : a.spot = none := by
        have := World.cell?_spot (hf 0 (by omega)).1
        unfold Addr.add at this
        simpa using this
      obtain ⟨h0, h1, h2, h3, _⟩ := hf i (by omega)
      rw [add_none hs] at h0 h1 h2 h3
      rw [add_none rfl] at h1 h2 h3
      simp only [List.getElem_map, List.getElem_range]
      exact ⟨hs, h0, h1, h2, h3⟩
    · simp only [List.length_map, List.length_range] at hi
      simp only [List.getElem_map, List.getElem_range]
      exact (hf i (by omega)).2.2.2.2
theorem open_rats {v : Value} {d : DataW H} {p : List MemPlace} {r : Reach} {b0 : Nat} (hv : Value.okWide Try.prog w r b0 23 v) (h : DataW.Trod enc Try.prog w base (fun _ => true) true 23 v d p) :
    ∃ (a : Option Addr) (cap : Nat) (L : List RatA), v = .slice a L.length cap ∧ RatsI w a cap L := by
  obtain ⟨a0, n0, c0, rfl⟩ := okWide_slice Try.underlying23 hv
  obtain ⟨fuel, hf⟩ := h
  obtain ⟨L, a, c, e, hr⟩ := isRats_of_trod fuel _ _ hf
  exact ⟨a, c, L, e, hr⟩
theorem open_ratrows {v : Value} {d : DataW H} {p : List MemPlace} {r : Reach} {b0 : Nat} (hv : Value.okWide Try.prog w r b0 22 v) (h : DataW.Trod enc Try.prog w base (fun _ => true) true 22 v d p) :
    ∃ (a : Option Addr) (cap : Nat) (L : List (List RatA)), v = .slice a L.length cap ∧ RRows w a cap L := by
  obtain ⟨a0, n0, c0, rfl⟩ := okWide_slice Try.underlying22 hv
  obtain ⟨fuel, hf⟩ := h
  obtain ⟨a, l, cap, e, hl⟩ := slOf_of_trod (R := IsRats) Try.underlying22 (by kernel_rfl) (fun n u y h => isRats_of_trod n u y h) hf
  exact ⟨a, cap, l, e, hl⟩
end
end Go.Proofs.Ytokffagbdfhnnaa

namespace Go.Proofs.Ytokffagbdfhnnaa
open Go.ChangeShapes Go.WideShapes Go.ChangeAt Go.RowKit
set_option linter.unusedVariables false
set_option maxRecDepth 100000

theorem ownMatrixTurned : ownKnob Try.prog.godebug = none := by kernel_rfl
theorem laidOutMatrixTurned : laidOutB Try.prog = true := by kernel_rfl

theorem liftedMatrixTurned (os : Os) (started : os.Started) (H : Type) (enc : TypeId × Value → H) :
    ReturnsInHanded {} Try.checked os 3 .any (Rows.matrixTurnedSpec.pre6 enc Try.prog Try.f3 Rows.matrixTurnedRow.domain false) (Rows.matrixTurnedSpec.post enc Try.prog Try.f3 false true false false) := by
  refine returnsInHanded_of_change (C := Try.checked) ownMatrixTurned started (by kernel_rfl) Try.func3
    (ChangeSpec.witness6 (enc := enc) (C := Try.checked) false ⟨#[], #[.slice none 0 0, .slice none 0 0, .int .u8 0, .int .u8 0], []⟩ 8 (by kernel_rfl) (by kernel_rfl) (by kernel_rfl) (by kernel_rfl)) ?_
  intro W base args ds gs before hval0 hW hcnd _
  have hval : ∀ (j : Nat) t v, Try.f3.params[j]? = some t → args[j]? = some v → Value.okWide Try.prog W .any base t v := hval0
  have hW' := hW
  obtain ⟨p, q, hA0, hV, rfl, hfz, hnd⟩ := hW
  have hA : DataW.TrodAll enc Try.prog W 0 (fun _ => true) true Try.f3.params.toList args.toList ds p := hA0
  rw [Try.params3] at hA hval
  obtain ⟨v0, vs0, d0, ds0, p0, q0, hargs, rfl, rfl, h0, r0⟩ := trodAll_cons hA
  obtain ⟨v1, vs1, d1, ds1, p1, q1, rfl, rfl, rfl, h1, r1⟩ := trodAll_cons r0
  obtain ⟨v2, vs2, d2, ds2, p2, q2, rfl, rfl, rfl, h2, r2⟩ := trodAll_cons r1
  obtain ⟨v3, vs3, d3, ds3, p3, q3, rfl, rfl, rfl, h3, r3⟩ := trodAll_cons r2
  obtain ⟨rfl, rfl, rfl⟩ := trodAll_nil r3
  obtain rfl : args = #[v0, v1, v2, v3] := by cases args; simp_all
  obtain ⟨rfl, rfl⟩ := trodVars_none hV
  have k0 := h0
  have lt0 : ∀ x ∈ p0, x.block < W.heap.size := by obtain ⟨m, hm⟩ := k0; exact DataW.trod_lt m _ _ _ hm
  have k1 := h1
  have lt1 : ∀ x ∈ p1, x.block < W.heap.size := by obtain ⟨m, hm⟩ := k1; exact DataW.trod_lt m _ _ _ hm
  have k2 := h2
  have lt2 : ∀ x ∈ p2, x.block < W.heap.size := by obtain ⟨m, hm⟩ := k2; exact DataW.trod_lt m _ _ _ hm
  have k3 := h3
  have lt3 : ∀ x ∈ p3, x.block < W.heap.size := by obtain ⟨m, hm⟩ := k3; exact DataW.trod_lt m _ _ _ hm
  obtain ⟨a0, cap0, l0, rfl, w0⟩ := open_ratrows (hval 0 22 v0 rfl rfl) h0
  obtain ⟨a1, cap1, l1, rfl, w1⟩ := open_rats (hval 1 23 v1 rfl rfl) h1
  obtain ⟨n2, rfl, w2⟩ := open_u8 (hval 2 5 v2 rfl rfl) h2
  obtain ⟨n3, rfl, w3⟩ := open_u8 (hval 3 5 v3 rfl rfl) h3
  clear hA0 hval0
  refine (law11_MatrixTurned a0 cap0 l0 a1 cap1 l1 n2 n3 W w0 w1 w2 w3).mono fun e W' ⟨he, bel⟩ => ?_
  subst he
  exact ⟨_, rfl, _, _, _, [], _, [], hW', trodAll_mk1 (shut_bool Try.underlying4 _), (trodAll_cons_mk (Below.trod laidOutMatrixTurned (by kernel_rfl) (of_decide_eq_true (by kernel_rfl)) k0 bel lt0) (trodAll_cons_mk (Below.trod laidOutMatrixTurned (by kernel_rfl) (of_decide_eq_true (by kernel_rfl)) k1 bel lt1) (trodAll_cons_mk (Below.trod laidOutMatrixTurned (by kernel_rfl) (of_decide_eq_true (by kernel_rfl)) k2 bel lt2) (trodAll_cons_mk (Below.trod laidOutMatrixTurned (by kernel_rfl) (of_decide_eq_true (by kernel_rfl)) k3 bel lt3) trodAll_mk0)))), rfl, bel.frame _, fun h => by cases h⟩

theorem matrixTurned_holds : Rows.MatrixTurnedSaid :=
  OpenClaim.holds_of_wide 3 Try.f3 rfl rfl rfl rfl rfl rfl rfl ⟨rfl, rfl, rfl, rfl, rfl⟩ rfl rfl rfl rfl rfl (by kernel_rfl) Try.func3 (by kernel_rfl)
    (of_decide_eq_true (by kernel_rfl)) (by unfold Func.isWrapper; rw [if_neg (of_decide_eq_false (by kernel_rfl))]; exact ⟨rfl, rfl⟩)
    (fun os started H enc _ => liftedMatrixTurned os started H enc)

#print axioms matrixTurned_holds
end Go.Proofs.Ytokffagbdfhnnaa

