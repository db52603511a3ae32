import Derived.Test.YtmcbbhlglccmgaaGreatND
import Derived.Test.YtmcbbhlglccmgaaGreatPDivA
namespace Go.Proofs.YtmcbbhlglccmgaaGreat
open Go.RowKit Go BigFrame
set_option maxRecDepth 100000
set_option linter.unusedSimpArgs false
set_option linter.unusedVariables false

/-! How great numbers of few digits are; integers in boxes. -/
theorem len_pow {z : Int} {n : Nat} (h : z.natAbs < 1073741824 ^ n) (hn : n ≤ 2048) : Len z := Nat.le_trans (digs_len h) hn
theorem abs_lt {z : Int} {n : Nat} (h : (digs z.natAbs).length ≤ n) : z.natAbs < 1073741824 ^ n := by
  have h1 := dval_lt (digs_norm z.natAbs).digs
  rw [digs_val] at h1
  have h2 : (1073741824 : Int) ^ (digs z.natAbs).length ≤ 1073741824 ^ n := pow_le30 h
  have h3 : ((z.natAbs : Nat) : Int) < ((1073741824 ^ n : Nat) : Int) := by rw [Int.natCast_pow]; exact Int.lt_of_lt_of_le h1 h2
  exact Int.ofNat_lt.1 h3
theorem len_lt {z : Int} {n : Nat} (h : z.natAbs < 1073741824 ^ n) (hn : n ≤ 2048) : Len z := len_pow h hn
theorem mul_lt {x y : Int} {n m : Nat} (hx : x.natAbs < 1073741824 ^ n) (hy : y.natAbs < 1073741824 ^ m) : (x * y).natAbs < 1073741824 ^ (n + m) := by
  rw [Int.natAbs_mul, Nat.pow_add]
  exact Nat.mul_lt_mul'' hx hy
theorem add_lt {x y : Int} {n : Nat} (hx : x.natAbs < 1073741824 ^ n) (hy : y.natAbs < 1073741824 ^ n) : (x + y).natAbs < 1073741824 ^ (n + 1) := by
  rw [Nat.pow_succ]; omega
theorem gcd_lt {x y : Int} {n : Nat} (hx : x.natAbs < 1073741824 ^ n) (hy : y.natAbs < 1073741824 ^ n) : ((Int.gcd x y : Nat) : Int).natAbs < 1073741824 ^ n := by
  rw [Int.natAbs_natCast]
  by_cases h : x = 0
  · subst h; rw [Int.gcd_zero_left]; exact hy
  · exact Nat.lt_of_le_of_lt (Nat.le_of_dvd (by omega) (Int.gcd_dvd_natAbs_left x y)) hx
theorem BigV.form {w : World} {v : Value} {z : Int} (h : BigV w v z) : ∃ n a q c, v = .agg #[.bool n, .slice a q c] := by
  obtain ⟨n, l, ⟨a, c, e, _⟩, _⟩ := h
  exact ⟨n, a, l.length, c, e⟩
/-- The sign of an integer that is not negative. -/
theorem BigV.pos {n : Bool} {a : Option Addr} {q c : Nat} {z : Int} {w : World} (h : BigV w (.agg #[.bool n, .slice a q c]) z) (hz : 0 ≤ z) : n = false := by
  obtain ⟨n', l, ⟨a', c', e, hi⟩, hb⟩ := h
  simp only [Value.agg.injEq, Array.mk.injEq, List.cons.injEq, Value.bool.injEq, Value.slice.injEq, and_true] at e
  obtain ⟨rfl, _⟩ := e
  cases n
  · rfl
  · have h1 := hb.2.1 rfl
    have h2 := dval_pos hb.1 h1
    have h3 := hb.2.2
    simp at h3; omega
theorem BigV.len0 {n : Bool} {a : Option Addr} {q c : Nat} {z : Int} {w : World} (h : BigV w (.agg #[.bool n, .slice a q c]) z) : q = 0 ↔ z = 0 := by
  obtain ⟨n', l, ⟨a', c', e, hi⟩, hb⟩ := h
  simp only [Value.agg.injEq, Array.mk.injEq, List.cons.injEq, Value.bool.injEq, Value.slice.injEq, and_true] at e
  obtain ⟨rfl, rfl, rfl, rfl⟩ := e
  constructor
  · intro h
    obtain rfl := List.length_eq_zero_iff.1 h
    have := hb.2.2
    simp [dval] at this; exact this
  · intro h
    by_cases hl : l = []
    · rw [hl]; rfl
    · have h1 := dval_pos hb.1 hl
      have h2 := hb.2.2
      rw [h] at h2
      split at h2 <;> omega
theorem BigV.le {n : Bool} {a : Option Addr} {q c : Nat} {z : Int} {w : World} (h : BigV w (.agg #[.bool n, .slice a q c]) z) : q ≤ 9223372036854775807 := by
  obtain ⟨n', l, ⟨a', c', e, hi⟩, hb⟩ := h
  simp only [Value.agg.injEq, Array.mk.injEq, List.cons.injEq, Value.bool.injEq, Value.slice.injEq, and_true] at e
  obtain ⟨rfl, rfl, rfl, rfl⟩ := e
  exact Nat.le_trans hi.le hi.mx
/-- Integers lie elsewhere than boxes do. -/
theorem BigV.box {w : World} {v : Value} {z : Int} {p : Nat} {b : Bool} {a : Option Addr} {q c : Nat} {t : TypeId} (h : BigV w v z) (hB : Blk w p #[.bool b, .slice a q c] t) (i : Nat) (u : Value) : BigV (w.setCell ⟨p, i, none⟩ u) v z := by
  obtain ⟨n', l, ⟨a', c', rfl, hi⟩, hb⟩ := h
  refine ⟨n', l, ⟨a', c', rfl, hi.putS (fun hp A hA => ?_) u⟩, hb⟩
  obtain ⟨b0, o0, e0⟩ := hi.head hp
  rw [e0] at hA hi
  cases hA
  intro e
  dsimp only at e
  subst e
  have h1 := (hi.cell (i := 0) hp).1
  rw [Nat.add_zero] at h1
  have hB' : w.heap[b0]? = some (.cells #[.bool b, .slice a q c] t (0, 0)) := hB
  simp only [World.cell?, hB'] at h1
  match o0, h1 with
  | 0, h1 => simp at h1
  | 1, h1 => simp at h1
  | k + 2, h1 => simp at h1
end Go.Proofs.YtmcbbhlglccmgaaGreat
