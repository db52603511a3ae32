import Derived.Test.YtolffmmkjnhkkaaGreatM8
import Derived.Test.YtolffmmkjnhkkaaGreatM9
import Derived.OwnWalk
import Derived.Deep.QuietTactic
namespace Go.Proofs.YtolffmmkjnhkkaaGreat
open Go.RowKit Go BigFrame Go.Shelf
set_option maxRecDepth 100000
set_option linter.unusedSimpArgs false
set_option linter.unusedVariables false
attribute [local go_sem] Oper.semAt_some

/-! Layer 40: corrected.Marks, corrected.Means. -/
theorem errM_ok {m : List (List Int)} {n : Nat} {b : Bool} (h : errM m n b = 0) : m.length ≤ 4096 ∧ n ≤ 256 ∧ b = false ∧ ∀ r ∈ m, r.length = n ∧ ∀ x ∈ r, -1 ≤ x ∧ x ≤ 1000 := by
  unfold errM at h
  split at h
  · cases h
  rename_i h1
  split at h
  · cases h
  rename_i h2
  split at h
  · cases h
  rename_i h3
  split at h
  · cases h
  rename_i h4
  split at h
  · cases h
  rename_i h5
  refine ⟨by omega, by omega, by simpa using h5, fun r hr => ?_⟩
  have hp : 0 < m.length := List.length_pos_of_mem hr
  have e : (m.headD []).length = n := by
    refine Decidable.byContradiction fun hne => h4 ⟨hp, hne⟩
  have h6 : wrongM (m.headD []).length r = false := by
    cases hb : wrongM (m.headD []).length r with
    | false => rfl
    | true => exact absurd (List.any_eq_true.2 ⟨r, hr, hb⟩) h3
  unfold wrongM at h6
  rw [Bool.or_eq_false_iff, decide_eq_false_iff_not, e] at h6
  refine ⟨by have := h6.1; omega, fun x hx => ?_⟩
  have h7 : badM x = false := by
    cases hb : badM x with
    | false => rfl
    | true => have := h6.2; rw [List.any_eq_true.2 ⟨x, hx, hb⟩] at this; cases this
  unfold badM at h7
  rw [Bool.or_eq_false_iff, decide_eq_false_iff_not, decide_eq_false_iff_not] at h7
  omega
theorem RowsRP.low {E : Int} {Rs : List (List (Option Rat))} {w x : World} {e : Ending} {w' : World} (hx : Ext w x) (h : RowsRP E Rs x e w') : RowsRP E Rs w e w' := by
  rcases h with ⟨h0, v, xs, h1, h2, h3, h4⟩ | ⟨h0, h1, h2⟩
  · exact .inl ⟨h0, v, xs, h1, h2.low hx.size, h3, hx.trans h4⟩
  · exact .inr ⟨h0, h1, hx.trans h2⟩
theorem RowsP.low {E : Int} {Rs : List (Option Rat)} {w x : World} {e : Ending} {w' : World} (hx : Ext w x) (h : RowsP E Rs x e w') : RowsP E Rs w e w' := by
  rcases h with ⟨h0, v, xs, h1, h2, h4⟩ | ⟨h0, h1, h2⟩
  · exact .inl ⟨h0, v, xs, h1, h2.low hx.size, hx.trans h4⟩
  · exact .inr ⟨h0, h1, hx.trans h2⟩
set_option maxHeartbeats 4000000 in
theorem corrected_Marks (a : Option Addr) (cap : Nat) (m : List (List Int)) (s : Option Addr) (sc : Nat) (L : List RatA) (S : List Rat) (w : World) (h : Rows w a cap m) (k : RatsI w s sc L)
    (hS : errM m L.length (L.any fun x => !x.ok) = 0 → ValL L S 7 ∧ L.length ≤ 20) :
    Calls Tryz.prog 9 #[.slice a m.length cap, .slice s L.length sc] w (RowsRP (errM m L.length (L.any fun x => !x.ok)) (m.map fun r => rowO r S) w) := by
  have hmf : ∀ (fn : Fn) (first cap : Array Value) (w : World), (Instr.makeFunc fn first cap).run Tryz.prog w = .ok (.func fn first cap) w := fun _ _ _ _ => rfl
  have hle := h.le
  have hmx := h.mx
  have sle := k.le
  have smx := k.mx
  obtain ⟨x1, hw, hx, Kb⟩ := boxQ1 w #[.slice s L.length sc] 23
  replace hw := Lib.hid hw
  have HC := Lib.hid (corrected_rowsR a cap m s sc L w.heap.size (fun r => rowO r S) x1 (h.ext hx) (k.ext hx) (fun h0 W hW r hr a c hI => by
    obtain ⟨g1, g2⟩ := hS h0
    obtain ⟨g3, g4, g5, g6⟩ := errM_ok h0
    obtain ⟨g7, g8⟩ := g6 r hr
    have g9 := g1.1
    exact corrected_marks1 a c r s sc L S w.heap.size W hI ((k.ext hx).ext hW) (Kb.out.ext hW) g1 (by omega) g8 (by omega)))
  obtain ⟨E, hE⟩ : ∃ E, errM m L.length (L.any fun x => !x.ok) = E := ⟨_, rfl⟩
  rw [hE] at HC ⊢
  have HX := Lib.hid hx
  clear h k hS hE
  go_enter Tryz.func9, Tryz.ntmps9
  go_upto_region 1 with fail
  try simp only [Nat.add_assoc, Nat.reduceAdd, Nat.add_zero]
  rw [hw.out]
  clear hw
  have c0 := bk1 Kb
  go_wp2_with fail
  refine HC.out.mono ?_
  rintro e x2 (⟨rfl, v, xs, rfl, h1, h2, h3⟩ | ⟨h0, rfl, h2⟩)
  · have hfin : RowsRP 0 (m.map fun r => rowO r S) w (.returned (.tuple #[v, .int .i64 0])) x2 := RowsRP.low HX.out (.inl ⟨rfl, v, xs, rfl, h1, h2, h3⟩)
    obtain ⟨va, vc, rfl, -, -⟩ := h1.form
    have HF := Lib.hid hfin
    clear hfin h1 h2 h3
    go_wp2_with fail
    go_ret2
    exact HF.out
  · have hfin : RowsRP E (m.map fun r => rowO r S) w (.returned (.tuple #[.slice none 0 0, .int .i64 E])) x2 := RowsRP.low HX.out (.inr ⟨h0, rfl, h2⟩)
    have HF := Lib.hid hfin
    clear hfin h2
    go_wp2_with fail
    go_ret2
    exact HF.out
set_option maxHeartbeats 4000000 in
theorem corrected_Means (a : Option Addr) (cap : Nat) (m : List (List Int)) (s : Option Addr) (sc : Nat) (L : List RatA) (S : List Rat) (w : World) (h : Rows w a cap m) (k : RatsI w s sc L)
    (hS : errM m L.length (L.any fun x => !x.ok) = 0 → ValL L S 7 ∧ L.length ≤ 20) :
    Calls Tryz.prog 11 #[.slice a m.length cap, .slice s L.length sc] w (RowsP (errM m L.length (L.any fun x => !x.ok)) (m.map fun r => meanO r S) w) := by
  have hmf : ∀ (fn : Fn) (first cap : Array Value) (w : World), (Instr.makeFunc fn first cap).run Tryz.prog w = .ok (.func fn first cap) w := fun _ _ _ _ => rfl
  have hle := h.le
  have hmx := h.mx
  have sle := k.le
  have smx := k.mx
  obtain ⟨x1, hw, hx, Kb⟩ := boxQ1 w #[.slice s L.length sc] 23
  replace hw := Lib.hid hw
  have HC := Lib.hid (corrected_rows a cap m s sc L w.heap.size (fun r => meanO r S) x1 (h.ext hx) (k.ext hx) (fun h0 W hW r hr a c hI => by
    obtain ⟨g1, g2⟩ := hS h0
    obtain ⟨g3, g4, g5, g6⟩ := errM_ok h0
    obtain ⟨g7, g8⟩ := g6 r hr
    have g9 := g1.1
    exact corrected_means1 a c r s sc L S w.heap.size W hI ((k.ext hx).ext hW) (Kb.out.ext hW) g1 (by omega) g8 (by omega)))
  obtain ⟨E, hE⟩ : ∃ E, errM m L.length (L.any fun x => !x.ok) = E := ⟨_, rfl⟩
  rw [hE] at HC ⊢
  have HX := Lib.hid hx
  clear h k hS hE
  go_enter Tryz.func11, Tryz.ntmps11
  go_upto_region 1 with fail
  try simp only [Nat.add_assoc, Nat.reduceAdd, Nat.add_zero]
  rw [hw.out]
  clear hw
  have c0 := bk1 Kb
  go_wp2_with fail
  refine HC.out.mono ?_
  rintro e x2 (⟨rfl, v, xs, rfl, h1, h2⟩ | ⟨h0, rfl, h2⟩)
  · have hfin : RowsP 0 (m.map fun r => meanO r S) w (.returned (.tuple #[v, .int .i64 0])) x2 := RowsP.low HX.out (.inl ⟨rfl, v, xs, rfl, h1, h2⟩)
    obtain ⟨va, vc, rfl, -, -⟩ := h1.form
    have HF := Lib.hid hfin
    clear hfin h1 h2
    go_wp2_with fail
    go_ret2
    exact HF.out
  · have hfin : RowsP E (m.map fun r => meanO r S) w (.returned (.tuple #[.slice none 0 0, .int .i64 E])) x2 := RowsP.low HX.out (.inr ⟨h0, rfl, h2⟩)
    have HF := Lib.hid hfin
    clear hfin h2
    go_wp2_with fail
    go_ret2
    exact HF.out
end Go.Proofs.YtolffmmkjnhkkaaGreat
