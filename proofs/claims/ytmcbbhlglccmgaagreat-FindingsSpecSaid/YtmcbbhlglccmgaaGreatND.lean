import Derived.Test.YtmcbbhlglccmgaaGreatNC
import Derived.Test.YtmcbbhlglccmgaaGreatNA
namespace Go.Proofs.YtmcbbhlglccmgaaGreat
open Go.RowKit Go BigFrame Go.Shelf
set_option maxRecDepth 100000
set_option linter.unusedSimpArgs false

/-! nat.Cmp and nat.Add. -/
theorem chk_of {neg : Bool} {l : List Int} {z : Int} (h : Big neg l z) (hl : l.length ≤ 2048) : chkB neg l = true := chk_iff.2 ⟨hl, h.2.1, h.1⟩
theorem of_chk {neg : Bool} {l : List Int} (h : chkB neg l = true) : Big neg l (sgn neg (dval l)) ∧ l.length ≤ 2048 := by
  obtain ⟨h1, h2, h3⟩ := chk_iff.1 h
  exact ⟨⟨h3, h2, rfl⟩, h1⟩
theorem cmp_sgn {n1 n2 : Bool} {x y : Int} (hx : 0 ≤ x) (hy : 0 ≤ y) (h1 : n1 = true → 0 < x) (h2 : n2 = true → 0 < y) :
    (n1 = true → n2 = true → cmpI y x = cmpI (sgn n1 x) (sgn n2 y)) ∧ (n1 = true → n2 = false → cmpI (sgn n1 x) (sgn n2 y) = -1) ∧ (n1 = false → n2 = true → cmpI (sgn n1 x) (sgn n2 y) = 1) ∧ (n1 = false → n2 = false → cmpI x y = cmpI (sgn n1 x) (sgn n2 y)) := by
  refine ⟨fun a b => ?_, fun a b => ?_, fun a b => ?_, fun a b => ?_⟩ <;> subst a <;> subst b <;> simp only [sgn, if_true, Bool.false_eq_true, if_false]
  · unfold cmpI; split <;> split <;> (try split) <;> (try split) <;> omega
  · exact cmpI_lt (by have := h1 rfl; omega)
  · exact cmpI_gt (by have := h2 rfl; omega)

end Go.Proofs.YtmcbbhlglccmgaaGreat

namespace Go.Proofs.YtmcbbhlglccmgaaGreat
open Go.RowKit Go BigFrame Go.Shelf
set_option maxRecDepth 100000
set_option linter.unusedSimpArgs false

/-- The integer 0, as a function hands it back beside an error. -/
abbrev zeroBig : Value := .agg #[.bool false, .slice none 0 0]
/-- An integer and no error, or 0 and the error of the limit. -/
def OpP (z : Int) (w : World) (e : Ending) (w' : World) : Prop :=
  ((digs z.natAbs).length ≤ 2048 ∧ ∃ v, e = .returned (.tuple #[v, .int .i64 0]) ∧ BigN w' v z w.heap.size ∧ Ext w w') ∨
  (2048 < (digs z.natAbs).length ∧ e = .returned (.tuple #[zeroBig, .int .i64 2]) ∧ Ext w w')
theorem BigN.form {w : World} {v : Value} {z : Int} {B : Nat} (h : BigN w v z B) : ∃ neg a cap len, v = .agg #[.bool neg, .slice a len cap] := by
  obtain ⟨neg, a, cap, l, e, _⟩ := h
  exact ⟨_, _, _, _, e⟩
theorem BigN.put {w : World} {v : Value} {z : Int} {B : Nat} (h : BigN w v z B) {p : Addr} (hp : p.block < B) (u : Value) : BigN (w.setCell p u) v z B := by
  obtain ⟨neg, a, cap, l, e, hi, hb, hB⟩ := h
  exact ⟨neg, a, cap, l, e, hi.putO (fun A hA => by have := hB A hA; omega) u, hb, hB⟩
theorem BigN.base {w : World} {v : Value} {z : Int} {B B' : Nat} (h : BigN w v z B) (hb : B' ≤ B) : BigN w v z B' := by
  obtain ⟨neg, a, cap, l, e, hi, hg, hB⟩ := h
  exact ⟨neg, a, cap, l, e, hi, hg, fun A hA => by have := hB A hA; omega⟩

end Go.Proofs.YtmcbbhlglccmgaaGreat


namespace Go.Proofs.YtmcbbhlglccmgaaGreat
open Go.RowKit Go BigFrame
set_option maxRecDepth 100000

/-! nat.Cmp and nat.Add, in terms of integers. -/
/-- The integer and no error. -/
def OneP (z : Int) (w : World) (e : Ending) (w' : World) : Prop := ∃ v, e = .returned (.tuple #[v, .int .i64 0]) ∧ BigN w' v z w.heap.size ∧ Ext w w'
theorem digs_one : digs 1 = [1] := by
  have := digs_of (digs_small (d := 1) (by omega) (by omega)).1
  simpa [dval] using this
def Len (z : Int) : Prop := (digs z.natAbs).length ≤ 2048
theorem Big.digs {neg : Bool} {l : List Int} {z : Int} (h : Big neg l z) : l = digs z.natAbs := (h.inj (Big.of z)).2
theorem Big.chk {neg : Bool} {l : List Int} {z : Int} (h : Big neg l z) (hl : Len z) : chkB neg l = true := chk_of h (by rw [h.digs]; exact hl)
theorem len_small {z : Int} (h : z.natAbs < 1073741824) : Len z := by
  have := digs_len (u := z.natAbs) (n := 1) (by omega)
  unfold Len; omega
def CmpP (z y : Int) (w : World) (e : Ending) (w' : World) : Prop := e = .returned (.tuple #[.int .i64 (cmpI z y), .int .i64 0]) ∧ Ext w w'
end Go.Proofs.YtmcbbhlglccmgaaGreat

