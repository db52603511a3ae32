/- RatioCross: the Go law returns true at every input, and its arguments read as before; the tied card. -/
import Derived.Test.YtnpeakahiedeoaaDoorQ0
import Derived.Test.YtnpeakahiedeoaaDoorQSane
import Derived.Test.YtnpeakahiedeoaaDoorPInt
import Derived.Test.YtnpeakahiedeoaaDoorQOpen
import Derived.Test.YtnpeakahiedeoaaDoorRows
import Derived.Test.YtnpeakahiedeoaaDoorCards
import Derived.Test.YtnpeakahiedeoaaDoorTie
import Derived.ProofKit
import Derived.OpenShut
import Derived.LaidMore
import Derived.Lay
import Derived.SevenTiedAt
import Derived.Stop.Joined
import Derived.ShutString
import Derived.ChangeOld
import Derived.Below
namespace Go.Proofs.YtnpeakahiedeoaaDoor
open Go.RowKit Go BigFrame
set_option maxRecDepth 100000
set_option linter.unusedSimpArgs false
set_option linter.unusedVariables false

/-! Ratios of small numbers, by their numbers (plain). -/
theorem cross_lt {n m p q : Int} (hm : 0 < m) (hq : 0 < q) : Rat.divInt n m < Rat.divInt p q ↔ n * q < p * m := by
  have hm' : (0 : Rat) < (m : Rat) := by exact_mod_cast hm
  have hq' : (0 : Rat) < (q : Rat) := by exact_mod_cast hq
  rw [Rat.divInt_eq_div, Rat.divInt_eq_div, Rat.div_lt_iff hm', show (p : Rat) / q * m = ((p * m : Int) : Rat) / q by rw [Rat.intCast_mul]; grind, Rat.lt_div_iff hq', ← Rat.intCast_mul, Rat.intCast_lt_intCast]
theorem cross_cmp {n m p q : Int} (hm : 0 < m) (hq : 0 < q) : cmpR (Rat.divInt n m) (Rat.divInt p q) = if n * q < p * m then -1 else if p * m < n * q then 1 else 0 := by
  unfold cmpR
  simp only [cross_lt hm hq, cross_lt hq hm]
theorem cross_floor {n m : Int} (hm : 0 < m) : (Rat.divInt n m).num / ((Rat.divInt n m).den : Int) * m ≤ n ∧ n < ((Rat.divInt n m).num / ((Rat.divInt n m).den : Int) + 1) * m := by
  have hm' : (0 : Rat) < (m : Rat) := by exact_mod_cast hm
  have h1 := Rat.floor_le (Rat.divInt n m)
  have h2 := Rat.lt_floor_add_one (Rat.divInt n m)
  rw [Rat.floor_def] at h1 h2
  generalize (Rat.divInt n m).num / ((Rat.divInt n m).den : Int) = z at *
  rw [Rat.divInt_eq_div] at h1 h2
  constructor
  · rw [← Rat.not_lt, Rat.div_lt_iff hm', ← Rat.intCast_mul, Rat.intCast_lt_intCast] at h1
    omega
  · rw [Rat.div_lt_iff hm', ← Rat.intCast_mul, Rat.intCast_lt_intCast] at h2
    exact h2
theorem mul_bd {a b : Int} (ha : -32768 ≤ a ∧ a ≤ 32768) (hb : -32768 ≤ b ∧ b ≤ 32768) : -1073741824 ≤ a * b ∧ a * b ≤ 1073741824 := by
  have h : (a * b).natAbs ≤ 32768 * 32768 := by
    rw [Int.natAbs_mul]
    exact Nat.mul_le_mul (by omega) (by omega)
  omega
/-- What a comparison is, of parts with positive denominators. -/
theorem cross_cmp4 {a b c d : Int} (hb : b ≠ 0) (hd : d ≠ 0) : cmpR (Rat.divInt a b) (Rat.divInt c d) = (if (if b * d < 0 then -(a * d - c * b) else a * d - c * b) < 0 then -1 else if 0 < (if b * d < 0 then -(a * d - c * b) else a * d - c * b) then 1 else 0) := by
  have e1 : ∀ x y : Int, -x * y = -(x * y) := fun x y => by rw [Int.neg_mul]
  have e2 : ∀ x y : Int, x * -y = -(x * y) := fun x y => by rw [Int.mul_neg]
  rcases Int.lt_or_gt_of_ne hb with h1 | h1 <;> rcases Int.lt_or_gt_of_ne hd with h2 | h2
  · have := Int.mul_pos_of_neg_of_neg h1 h2
    rw [← Rat.neg_divInt_neg a b, ← Rat.neg_divInt_neg c d, cross_cmp (by omega) (by omega), show (if b * d < 0 then -(a * d - c * b) else a * d - c * b) = a * d - c * b from if_neg (by omega)]
    simp only [e1, e2]
    split <;> split <;> (try split) <;> (try split) <;> omega
  · have := Int.mul_neg_of_neg_of_pos h1 h2
    rw [← Rat.neg_divInt_neg a b, cross_cmp (by omega) (by omega), show (if b * d < 0 then -(a * d - c * b) else a * d - c * b) = -(a * d - c * b) from if_pos (by omega)]
    simp only [e1, e2]
    split <;> split <;> (try split) <;> (try split) <;> omega
  · have := Int.mul_neg_of_pos_of_neg h1 h2
    rw [← Rat.neg_divInt_neg c d, cross_cmp (by omega) (by omega), show (if b * d < 0 then -(a * d - c * b) else a * d - c * b) = -(a * d - c * b) from if_pos (by omega)]
    simp only [e1, e2]
    split <;> split <;> (try split) <;> (try split) <;> omega
  · have := Int.mul_pos h1 h2
    rw [cross_cmp (by omega) (by omega), show (if b * d < 0 then -(a * d - c * b) else a * d - c * b) = a * d - c * b from if_neg (by omega)]
    split <;> split <;> (try split) <;> (try split) <;> omega
theorem cross_floor2 {a b : Int} (hb : b ≠ 0) : ∃ z : Int, (Rat.divInt a b).num / ((Rat.divInt a b).den : Int) = z ∧ (0 < b → z * b ≤ a ∧ a < (z + 1) * b) ∧ (b < 0 → z * -b ≤ -a ∧ -a < (z + 1) * -b) := by
  refine ⟨_, rfl, fun h => cross_floor h, fun h => ?_⟩
  have := cross_floor (n := -a) (m := -b) (by omega)
  rw [Rat.neg_divInt_neg] at this
  exact this
theorem cross_floor_abs {a b z : Int} (hb : 0 < b ∨ b < 0) (ha : -32768 ≤ a ∧ a ≤ 32767) (h1 : 0 < b → z * b ≤ a ∧ a < (z + 1) * b) (h2 : b < 0 → z * -b ≤ -a ∧ -a < (z + 1) * -b) : -32768 ≤ z ∧ z ≤ 32768 := by
  rcases hb with h | h
  · obtain ⟨p, q⟩ := h1 h
    constructor
    · refine Int.not_lt.1 fun hz => ?_
      have := Int.mul_le_mul_of_nonneg_right (show z + 1 ≤ -32768 by omega) (Int.le_of_lt h)
      omega
    · refine Int.not_lt.1 fun hz => ?_
      have := Int.mul_le_mul_of_nonneg_right (show 32769 ≤ z by omega) (Int.le_of_lt h)
      omega
  · obtain ⟨p, q⟩ := h2 h
    constructor
    · refine Int.not_lt.1 fun hz => ?_
      have := Int.mul_le_mul_of_nonneg_right (show z + 1 ≤ -32768 by omega) (show (0 : Int) ≤ -b by omega)
      omega
    · refine Int.not_lt.1 fun hz => ?_
      have := Int.mul_le_mul_of_nonneg_right (show 32769 ≤ z by omega) (show (0 : Int) ≤ -b by omega)
      omega
theorem cross_add {a b c d : Int} (hb : b ≠ 0) (hd : d ≠ 0) : Rat.divInt a b + Rat.divInt c d = Rat.divInt (a * d + c * b) (b * d) := Rat.divInt_add_divInt _ _ hb hd
theorem cross_mul (a b c d : Int) : Rat.divInt a b * Rat.divInt c d = Rat.divInt (a * c) (b * d) := Rat.divInt_mul_divInt _ _
theorem sz_small {a b : Int} (ha : a.natAbs < 1073741824) (hb : b.natAbs < 1073741824) (h0 : b ≠ 0) : Sz (Rat.divInt a b) 1 := divInt_sz (by simpa using ha) (by simpa using hb) h0
end Go.Proofs.YtnpeakahiedeoaaDoor

namespace Go.Proofs.YtnpeakahiedeoaaDoor
open Go.RowKit Go BigFrame
set_option maxRecDepth 100000
set_option linter.unusedSimpArgs false
set_option linter.unusedVariables false

/-! law10.RatioCross. -/
theorem same_eqC {v u : Value} {r s : Rat} {w : World} (hv : RatV w v r) (hu : RatV w u s) (e : r = s) : Calls Tryd.prog 11 #[v, u] w fun e w' => e = .returned (.bool true) ∧ Ext w w' :=
  (same_rat hv hu).mono fun _ _ h => ⟨by rw [h.1, decide_eq_true e], h.2⟩
theorem mul_bd2 {a b : Int} (ha : -40000 ≤ a ∧ a ≤ 40000) (hb : -40000 ≤ b ∧ b ≤ 40000) : -1600000000 ≤ a * b ∧ a * b ≤ 1600000000 := by
  have h : (a * b).natAbs ≤ 40000 * 40000 := by
    rw [Int.natAbs_mul]
    exact Nat.mul_le_mul (by omega) (by omega)
  omega
section
open Go.Joins Go.Deep Go.WideShapes Go.ChangeShapes
variable {H : Type} {enc : TypeId × Value → H} {w : World} {base : Nat} {held : Bool}
theorem open_i16 {v : Value} {d : DataW H} {p : List MemPlace} {r : Reach} {b0 : Nat} (hv : Value.okWide Tryd.prog w r b0 22 v) (h : DataW.Trod enc Tryd.prog w base (fun _ => true) held 22 v d p) :
    ∃ n : Int, v = .int .i16 n ∧ -32768 ≤ n ∧ n ≤ 32767 := by
  obtain ⟨a, rfl, _, _, hw⟩ := open_int Tryd.underlying22 hv h
  exact ⟨a, rfl, bounds_i16 hw⟩
end
theorem int_small {v : Value} {z : Int} {w : World} (hv : BigV w v z) (h : -32768 ≤ z ∧ z ≤ 32768) : Calls Tryd.prog 10 #[v] w fun e w' => e = .returned (.tuple #[.int .i64 z, .bool true, .int .i64 0]) ∧ Ext w w' := by
  have := int_val hv (len_i64 (by omega))
  rw [(fit_yes (z := z) (by omega) (by omega)).1, (fit_yes (z := z) (by omega) (by omega)).2] at this
  exact this
set_option maxHeartbeats 2000000 in
theorem law_Cross_b0 (a b c d : Int) (ha : -32768 ≤ a ∧ a ≤ 32767) (hb : -32768 ≤ b ∧ b ≤ 32767) (hc : -32768 ≤ c ∧ c ≤ 32767) (hd : -32768 ≤ d ∧ d ≤ 32767) (w : World) (h0 : b = 0) : Calls Tryd.prog 3 #[.int .i16 a, .int .i16 b, .int .i16 c, .int .i16 d] w fun e w' => e = .returned (.bool true) ∧ Ext w w' := by
  subst h0
  clear hb
  have hx : Ext w w := Ext.refl w
  go_enter Tryd.func3, Tryd.ntmps3
  go_upto_region 1 with fail
  have hs0 := hx.size
  go_wp2_with fail
  with_reducible refine (law10_sane _).mono ?_
  rintro e x1 ⟨rfl, hy⟩
  replace hx := hx.trans hy
  clear hy
  go_wp2_with fail
  go_ret
  exact ⟨rfl, hx⟩
set_option maxHeartbeats 2000000 in
theorem law_Cross_d0 (a b c d : Int) (ha : -32768 ≤ a ∧ a ≤ 32767) (hb : -32768 ≤ b ∧ b ≤ 32767) (hc : -32768 ≤ c ∧ c ≤ 32767) (hd : -32768 ≤ d ∧ d ≤ 32767) (w : World) (h0 : b ≠ 0 ∧ d = 0) : Calls Tryd.prog 3 #[.int .i16 a, .int .i16 b, .int .i16 c, .int .i16 d] w fun e w' => e = .returned (.bool true) ∧ Ext w w' := by
  obtain ⟨h0, rfl⟩ := h0
  have hb0 : (b == 0) = false := by simpa using h0
  clear hd
  have hx : Ext w w := Ext.refl w
  go_enter Tryd.func3, Tryd.ntmps3
  go_upto_region 1 with fail
  have hs0 := hx.size
  go_wp2_with fail
  with_reducible refine (law10_sane _).mono ?_
  rintro e x1 ⟨rfl, hy⟩
  replace hx := hx.trans hy
  clear hy
  go_wp2_with fail
  go_ret
  exact ⟨rfl, hx⟩
set_option maxHeartbeats 8000000 in
theorem law_Cross_ok (a b c d : Int) (ha : -32768 ≤ a ∧ a ≤ 32767) (hb : -32768 ≤ b ∧ b ≤ 32767) (hc : -32768 ≤ c ∧ c ≤ 32767) (hd : -32768 ≤ d ∧ d ≤ 32767) (w : World) (hb0 : b ≠ 0) (hd0 : d ≠ 0) : Calls Tryd.prog 3 #[.int .i16 a, .int .i16 b, .int .i16 c, .int .i16 d] w fun e w' => e = .returned (.bool true) ∧ Ext w w' := by
  have tb : (b == 0) = false := by simpa using hb0
  have td : (d == 0) = false := by simpa using hd0
  have m1 := mul_bd (a := a) (b := d) (by omega) (by omega)
  have m2 := mul_bd (a := c) (b := b) (by omega) (by omega)
  have m3 := mul_bd (a := b) (b := d) (by omega) (by omega)
  have m4 := mul_bd (a := a) (b := c) (by omega) (by omega)
  have BD0 : b * d ≠ 0 := Int.mul_ne_zero hb0 hd0
  have SX := Lib.hid (sz_small (a := a) (b := b) (by omega) (by omega) hb0)
  have SY := Lib.hid (sz_small (a := c) (b := d) (by omega) (by omega) hd0)
  have M1 := Lib.hid (ratio_Make a b)
  have M2 := Lib.hid (ratio_Make c d)
  have M3 := Lib.hid (ratio_Make (a * d + c * b) (b * d))
  have M4 := Lib.hid (ratio_Make (a * c) (b * d))
  have C1 := Lib.hid (cross_cmp4 (a := a) (c := c) hb0 hd0)
  have C2 := Lib.hid (cross_add (a := a) (c := c) hb0 hd0)
  have C3 := Lib.hid (cross_mul a b c d)
  have HBZ := Lib.hid (And.intro hb0 (And.intro hd0 BD0))
  obtain ⟨z, hz, f1, f2⟩ := cross_floor2 (a := a) hb0
  have fz := cross_floor_abs (a := a) (b := b) (z := z) (by omega) ha f1 f2
  have HZ := Lib.hid hz
  have F1 := Lib.hid f1
  have F2 := Lib.hid f2
  clear f1 f2 hz hb0 hd0 BD0
  have hx : Ext w w := Ext.refl w
  go_enter Tryd.func3, Tryd.ntmps3
  go_upto_region 1 with fail
  have hs0 := hx.size
  go_wp2_with fail
  with_reducible refine (law10_sane _).mono ?_
  rintro e x1 ⟨rfl, hy⟩
  replace hx := hx.trans hy
  clear hy
  go_wp2_with fail
  with_reducible refine (M1.out _ (by omega) (by omega) HBZ.out.1).mono ?_
  rintro e x2 ⟨v, rfl, hv, hy⟩
  replace hx := hx.trans hy
  clear hy
  obtain ⟨nx, ax, qx, cx, bx, kx, dx, rfl, hv', hf', hg'⟩ := hv
  have Vx := Lib.hid hv'
  clear hv' hf' hg'
  go_upto_region 7 with fail
  have hl := Ext.alloc x2 (.cells #[.bool nx, .slice ax qx cx, .bool false, .slice bx kx dx] 28)
  have hpx : w.heap.size ≤ x2.heap.size := hx.size
  replace hx := hx.trans hl
  replace Vx := Lib.hid (Vx.out.ext hl)
  have Kx := Lib.hid (Blk.new0 x2 #[.bool nx, .slice ax qx cx, .bool false, .slice bx kx dx] 28)
  clear hl
  generalize x2.alloc (.cells #[.bool nx, .slice ax qx cx, .bool false, .slice bx kx dx] 28) = x3 at *
  generalize x2.heap.size = px at *
  go_wp2_with fail
  with_reducible refine (M2.out _ (by omega) (by omega) HBZ.out.2.1).mono ?_
  rintro e x4 ⟨v, rfl, hv, hy⟩
  replace hx := hx.trans hy
  replace Kx := kE Kx hy
  replace Vx := Lib.hid (Vx.out.ext hy)
  clear hy
  obtain ⟨nq, aq, qq, cq, bq, kq, dq, rfl, hv', hf', hg'⟩ := hv
  have Vq := Lib.hid hv'
  clear hv' hf' hg'
  go_upto_region 8 with fail
  have hl := Ext.alloc x4 (.cells #[.bool nq, .slice aq qq cq, .bool false, .slice bq kq dq] 28)
  have lxq : px < x4.heap.size := Kx.out.lt
  have hpq : w.heap.size ≤ x4.heap.size := hx.size
  replace hx := hx.trans hl
  replace Kx := kE Kx hl
  replace Vx := Lib.hid (Vx.out.ext hl)
  replace Vq := Lib.hid (Vq.out.ext hl)
  have Kq := Lib.hid (Blk.new0 x4 #[.bool nq, .slice aq qq cq, .bool false, .slice bq kq dq] 28)
  clear hl
  generalize x4.alloc (.cells #[.bool nq, .slice aq qq cq, .bool false, .slice bq kq dq] 28) = x5 at *
  generalize x4.heap.size = pq at *
  obtain ⟨cx0, cx1, cx2, cx3⟩ := bk4 Kx
  obtain ⟨cq0, cq1, cq2, cq3⟩ := bk4 Kq
  go_wp2_with fail
  with_reducible refine (ratio_Cmp Vx.out Vq.out SX.out SY.out (by omega)).mono ?_
  clear cx0 cx1 cx2 cx3 cq0 cq1 cq2 cq3
  rintro e x6 ⟨rfl, hy⟩
  replace hx := hx.trans hy
  replace Kx := kE Kx hy
  replace Kq := kE Kq hy
  replace Vx := Lib.hid (Vx.out.ext hy)
  replace Vq := Lib.hid (Vq.out.ext hy)
  clear hy
  obtain ⟨cx0, cx1, cx2, cx3⟩ := bk4 Kx
  obtain ⟨cq0, cq1, cq2, cq3⟩ := bk4 Kq
  go_wp2_with fail
  with_reducible refine (ratio_Add Vx.out Vq.out SX.out SY.out (by omega)).mono ?_
  clear cx0 cx1 cx2 cx3 cq0 cq1 cq2 cq3
  rintro e x7 ⟨v, rfl, hv, hy⟩
  replace hx := hx.trans hy
  replace Kx := kE Kx hy
  replace Kq := kE Kq hy
  replace Vx := Lib.hid (Vx.out.ext hy)
  replace Vq := Lib.hid (Vq.out.ext hy)
  clear hy
  obtain ⟨nu, au, qu, cu, bu, ku, du, rfl, hv', hf', hg'⟩ := hv
  have Vu := Lib.hid hv'
  clear hv' hf' hg'
  go_upto_region 10 with fail
  have hl := Ext.alloc x7 (.cells #[.bool nu, .slice au qu cu, .bool false, .slice bu ku du] 28)
  have lxu : px < x7.heap.size := Kx.out.lt
  have lqu : pq < x7.heap.size := Kq.out.lt
  have hpu : w.heap.size ≤ x7.heap.size := hx.size
  replace hx := hx.trans hl
  replace Kx := kE Kx hl
  replace Kq := kE Kq hl
  replace Vx := Lib.hid (Vx.out.ext hl)
  replace Vq := Lib.hid (Vq.out.ext hl)
  replace Vu := Lib.hid (Vu.out.ext hl)
  have Ku := Lib.hid (Blk.new0 x7 #[.bool nu, .slice au qu cu, .bool false, .slice bu ku du] 28)
  clear hl
  generalize x7.alloc (.cells #[.bool nu, .slice au qu cu, .bool false, .slice bu ku du] 28) = x8 at *
  generalize x7.heap.size = pu at *
  go_wp2_with fail
  with_reducible refine (M3.out _ (by omega) (by omega) HBZ.out.2.2).mono ?_
  rintro e x9 ⟨v, rfl, hv, hy⟩
  replace hx := hx.trans hy
  replace Kx := kE Kx hy
  replace Kq := kE Kq hy
  replace Ku := kE Ku hy
  replace Vx := Lib.hid (Vx.out.ext hy)
  replace Vq := Lib.hid (Vq.out.ext hy)
  replace Vu := Lib.hid (Vu.out.ext hy)
  clear hy
  obtain ⟨nv, av, qv, cv, bv, kv, dv, rfl, hv', hf', hg'⟩ := hv
  have Vv := Lib.hid hv'
  clear hv' hf' hg'
  go_upto_region 11 with fail
  have hl := Ext.alloc x9 (.cells #[.bool nv, .slice av qv cv, .bool false, .slice bv kv dv] 28)
  have lxv : px < x9.heap.size := Kx.out.lt
  have lqv : pq < x9.heap.size := Kq.out.lt
  have luv : pu < x9.heap.size := Ku.out.lt
  have hpv : w.heap.size ≤ x9.heap.size := hx.size
  replace hx := hx.trans hl
  replace Kx := kE Kx hl
  replace Kq := kE Kq hl
  replace Ku := kE Ku hl
  replace Vx := Lib.hid (Vx.out.ext hl)
  replace Vq := Lib.hid (Vq.out.ext hl)
  replace Vu := Lib.hid (Vu.out.ext hl)
  replace Vv := Lib.hid (Vv.out.ext hl)
  have Kv := Lib.hid (Blk.new0 x9 #[.bool nv, .slice av qv cv, .bool false, .slice bv kv dv] 28)
  clear hl
  generalize x9.alloc (.cells #[.bool nv, .slice av qv cv, .bool false, .slice bv kv dv] 28) = x10 at *
  generalize x9.heap.size = pv at *
  obtain ⟨cx0, cx1, cx2, cx3⟩ := bk4 Kx
  obtain ⟨cq0, cq1, cq2, cq3⟩ := bk4 Kq
  go_wp2_with fail
  with_reducible refine (ratio_Mul Vx.out Vq.out SX.out SY.out (by omega)).mono ?_
  clear cx0 cx1 cx2 cx3 cq0 cq1 cq2 cq3
  rintro e x11 ⟨v, rfl, hv, hy⟩
  replace hx := hx.trans hy
  replace Kx := kE Kx hy
  replace Kq := kE Kq hy
  replace Ku := kE Ku hy
  replace Kv := kE Kv hy
  replace Vx := Lib.hid (Vx.out.ext hy)
  replace Vq := Lib.hid (Vq.out.ext hy)
  replace Vu := Lib.hid (Vu.out.ext hy)
  replace Vv := Lib.hid (Vv.out.ext hy)
  clear hy
  obtain ⟨np, ap, qp, cp, bp, kp, dp, rfl, hv', hf', hg'⟩ := hv
  have Vp := Lib.hid hv'
  clear hv' hf' hg'
  go_upto_region 12 with fail
  have hl := Ext.alloc x11 (.cells #[.bool np, .slice ap qp cp, .bool false, .slice bp kp dp] 28)
  have lxp : px < x11.heap.size := Kx.out.lt
  have lqp : pq < x11.heap.size := Kq.out.lt
  have lup : pu < x11.heap.size := Ku.out.lt
  have lvp : pv < x11.heap.size := Kv.out.lt
  have hpp : w.heap.size ≤ x11.heap.size := hx.size
  replace hx := hx.trans hl
  replace Kx := kE Kx hl
  replace Kq := kE Kq hl
  replace Ku := kE Ku hl
  replace Kv := kE Kv hl
  replace Vx := Lib.hid (Vx.out.ext hl)
  replace Vq := Lib.hid (Vq.out.ext hl)
  replace Vu := Lib.hid (Vu.out.ext hl)
  replace Vv := Lib.hid (Vv.out.ext hl)
  replace Vp := Lib.hid (Vp.out.ext hl)
  have Kp := Lib.hid (Blk.new0 x11 #[.bool np, .slice ap qp cp, .bool false, .slice bp kp dp] 28)
  clear hl
  generalize x11.alloc (.cells #[.bool np, .slice ap qp cp, .bool false, .slice bp kp dp] 28) = x12 at *
  generalize x11.heap.size = pp at *
  go_wp2_with fail
  with_reducible refine (M4.out _ (by omega) (by omega) HBZ.out.2.2).mono ?_
  rintro e x13 ⟨v, rfl, hv, hy⟩
  replace hx := hx.trans hy
  replace Kx := kE Kx hy
  replace Kq := kE Kq hy
  replace Ku := kE Ku hy
  replace Kv := kE Kv hy
  replace Kp := kE Kp hy
  replace Vx := Lib.hid (Vx.out.ext hy)
  replace Vq := Lib.hid (Vq.out.ext hy)
  replace Vu := Lib.hid (Vu.out.ext hy)
  replace Vv := Lib.hid (Vv.out.ext hy)
  replace Vp := Lib.hid (Vp.out.ext hy)
  clear hy
  obtain ⟨ng, ag, qg, cg, bg, kg, dg, rfl, hv', hf', hg'⟩ := hv
  have Vg := Lib.hid hv'
  clear hv' hf' hg'
  go_upto_region 13 with fail
  have hl := Ext.alloc x13 (.cells #[.bool ng, .slice ag qg cg, .bool false, .slice bg kg dg] 28)
  have lxg : px < x13.heap.size := Kx.out.lt
  have lqg : pq < x13.heap.size := Kq.out.lt
  have lug : pu < x13.heap.size := Ku.out.lt
  have lvg : pv < x13.heap.size := Kv.out.lt
  have lpg : pp < x13.heap.size := Kp.out.lt
  have hpg : w.heap.size ≤ x13.heap.size := hx.size
  replace hx := hx.trans hl
  replace Kx := kE Kx hl
  replace Kq := kE Kq hl
  replace Ku := kE Ku hl
  replace Kv := kE Kv hl
  replace Kp := kE Kp hl
  replace Vx := Lib.hid (Vx.out.ext hl)
  replace Vq := Lib.hid (Vq.out.ext hl)
  replace Vu := Lib.hid (Vu.out.ext hl)
  replace Vv := Lib.hid (Vv.out.ext hl)
  replace Vp := Lib.hid (Vp.out.ext hl)
  replace Vg := Lib.hid (Vg.out.ext hl)
  have Kg := Lib.hid (Blk.new0 x13 #[.bool ng, .slice ag qg cg, .bool false, .slice bg kg dg] 28)
  clear hl
  generalize x13.alloc (.cells #[.bool ng, .slice ag qg cg, .bool false, .slice bg kg dg] 28) = x14 at *
  generalize x13.heap.size = pg at *
  obtain ⟨cx0, cx1, cx2, cx3⟩ := bk4 Kx
  go_wp2_with fail
  with_reducible refine (ratio_Floor Vx.out SX.out (by omega)).mono ?_
  clear cx0 cx1 cx2 cx3
  rintro e x15 ⟨v, rfl, hv, hy⟩
  replace hx := hx.trans hy
  replace Kx := kE Kx hy
  replace Kq := kE Kq hy
  replace Ku := kE Ku hy
  replace Kv := kE Kv hy
  replace Kp := kE Kp hy
  replace Kg := kE Kg hy
  replace Vx := Lib.hid (Vx.out.ext hy)
  replace Vq := Lib.hid (Vq.out.ext hy)
  replace Vu := Lib.hid (Vu.out.ext hy)
  replace Vv := Lib.hid (Vv.out.ext hy)
  replace Vp := Lib.hid (Vp.out.ext hy)
  replace Vg := Lib.hid (Vg.out.ext hy)
  clear hy
  rw [HZ.out] at hv
  replace hv := hv.val
  obtain ⟨nf, af, qf, cf, rfl⟩ := hv.form
  have Vf := Lib.hid hv
  clear hv
  go_upto_region 14 with fail
  have hl := Ext.alloc x15 (.cells #[.bool nf, .slice af qf cf] 26)
  have lxf : px < x15.heap.size := Kx.out.lt
  have lqf : pq < x15.heap.size := Kq.out.lt
  have luf : pu < x15.heap.size := Ku.out.lt
  have lvf : pv < x15.heap.size := Kv.out.lt
  have lpf : pp < x15.heap.size := Kp.out.lt
  have lgf : pg < x15.heap.size := Kg.out.lt
  have hpf : w.heap.size ≤ x15.heap.size := hx.size
  replace hx := hx.trans hl
  replace Kx := kE Kx hl
  replace Kq := kE Kq hl
  replace Ku := kE Ku hl
  replace Kv := kE Kv hl
  replace Kp := kE Kp hl
  replace Kg := kE Kg hl
  replace Vx := Lib.hid (Vx.out.ext hl)
  replace Vq := Lib.hid (Vq.out.ext hl)
  replace Vu := Lib.hid (Vu.out.ext hl)
  replace Vv := Lib.hid (Vv.out.ext hl)
  replace Vp := Lib.hid (Vp.out.ext hl)
  replace Vg := Lib.hid (Vg.out.ext hl)
  replace Vf := Lib.hid (Vf.out.ext hl)
  have Kf := Lib.hid (Blk.new0 x15 #[.bool nf, .slice af qf cf] 26)
  clear hl
  generalize x15.alloc (.cells #[.bool nf, .slice af qf cf] 26) = x16 at *
  generalize x15.heap.size = pf at *
  obtain ⟨cf0, cf1⟩ := bk2 Kf
  go_wp2_with fail
  with_reducible refine (int_small Vf.out (by omega)).mono ?_
  clear cf0 cf1
  rintro e x17 ⟨rfl, hy⟩
  replace hx := hx.trans hy
  replace Kx := kE Kx hy
  replace Kq := kE Kq hy
  replace Ku := kE Ku hy
  replace Kv := kE Kv hy
  replace Kp := kE Kp hy
  replace Kg := kE Kg hy
  replace Kf := kE Kf hy
  replace Vx := Lib.hid (Vx.out.ext hy)
  replace Vq := Lib.hid (Vq.out.ext hy)
  replace Vu := Lib.hid (Vu.out.ext hy)
  replace Vv := Lib.hid (Vv.out.ext hy)
  replace Vp := Lib.hid (Vp.out.ext hy)
  replace Vg := Lib.hid (Vg.out.ext hy)
  replace Vf := Lib.hid (Vf.out.ext hy)
  clear hy
  clear Kx Kq Kf
  go_upto_region 16 with fail
  have hl := Ext.alloc x17 (.cells #[.int .i64 0, .int .i64 0, .int .i64 0, .int .i64 0, .int .i64 0, .int .i64 0, .int .i64 0, .int .i64 0, .int .i64 0] 29)
  have lue : pu < x17.heap.size := Ku.out.lt
  have lve : pv < x17.heap.size := Kv.out.lt
  have lpe : pp < x17.heap.size := Kp.out.lt
  have lge : pg < x17.heap.size := Kg.out.lt
  have hpe : w.heap.size ≤ x17.heap.size := hx.size
  replace hx := hx.trans hl
  replace Ku := kE Ku hl
  replace Kv := kE Kv hl
  replace Kp := kE Kp hl
  replace Kg := kE Kg hl
  replace Vx := Lib.hid (Vx.out.ext hl)
  replace Vq := Lib.hid (Vq.out.ext hl)
  replace Vu := Lib.hid (Vu.out.ext hl)
  replace Vv := Lib.hid (Vv.out.ext hl)
  replace Vp := Lib.hid (Vp.out.ext hl)
  replace Vg := Lib.hid (Vg.out.ext hl)
  replace Vf := Lib.hid (Vf.out.ext hl)
  have Ke := Lib.hid (Blk.new0 x17 #[.int .i64 0, .int .i64 0, .int .i64 0, .int .i64 0, .int .i64 0, .int .i64 0, .int .i64 0, .int .i64 0, .int .i64 0] 29)
  clear hl
  generalize x17.alloc (.cells #[.int .i64 0, .int .i64 0, .int .i64 0, .int .i64 0, .int .i64 0, .int .i64 0, .int .i64 0, .int .i64 0, .int .i64 0] 29) = x18 at *
  generalize x17.heap.size = pe at *
  have KE := Lib.hid (fun k (hk : k < 9) => show World.cell? x18 ⟨pe, k, none⟩ = some (.int .i64 0) from Ke.out.cell (by
    match k, hk with
    | 0, _ | 1, _ | 2, _ | 3, _ | 4, _ | 5, _ | 6, _ | 7, _ | 8, _ => rfl))
  go_loopw [127] (fun i wr => ∃ k : Nat, k ≤ 9 ∧ i = .int .i64 k ∧ wr = x18) (fun i _ => 9 - (intOf i).toNat)
  case atStart => exact ⟨0, by omega, rfl, rfl⟩
  case round =>
    obtain ⟨k, hk, rfl, rfl⟩ := hrel
    by_cases hkn : k < 9
    · have e0 := KE.out k hkn
      have g1 : (0 : Int) ≤ (k : Int) := by omega
      have g2 : (k : Int) < 9 := by omega
      go_wp2_with fail
      go_roundw
      case rel => exact ⟨k + 1, by omega, by go_num, by first | rfl | trivial⟩
      case measure => simp [intOf]; omega
    · obtain rfl : k = 9 := by omega
      generalize cmpR (Rat.divInt a b) (Rat.divInt c d) = o at *
      obtain ⟨S, hS⟩ : ∃ S, S = (if b * d < 0 then -(a * d - c * b) else a * d - c * b) := ⟨_, rfl⟩
      have C1' := C1.out
      rw [← hS] at C1'
      have HS := Lib.hid hS
      have hSb : -3000000000 ≤ S ∧ S ≤ 3000000000 := by rw [hS]; split <;> omega
      have BN := HBZ.out.1
      have BDN := HBZ.out.2.2
      have ho : o = min 1 (max (-1) S) := by rw [C1']; split <;> (try split) <;> omega
      have HO := Lib.hid ho
      obtain ⟨n', m', hn1, hn2, hm0, hm1, hn3, hn4, hz1, hz2⟩ : ∃ n' m' : Int, (b < 0 → n' = -a ∧ m' = -b) ∧ (0 < b → n' = a ∧ m' = b) ∧ 0 < m' ∧ m' ≤ 32768 ∧ -32768 ≤ n' ∧ n' ≤ 32768 ∧ z * m' ≤ n' ∧ n' < (z + 1) * m' := by
        rcases Int.lt_or_gt_of_ne BN with hb | hb
        · obtain ⟨p1, p2⟩ := F2.out hb
          exact ⟨-a, -b, fun _ => ⟨rfl, rfl⟩, fun h => by omega, by omega, by omega, by omega, by omega, p1, p2⟩
        · obtain ⟨p1, p2⟩ := F1.out hb
          exact ⟨a, b, fun h => by omega, fun _ => ⟨rfl, rfl⟩, by omega, by omega, by omega, by omega, p1, p2⟩
      have HN1 := Lib.hid hn1
      have HN2 := Lib.hid hn2
      obtain ⟨m1a, m1b⟩ := m1
      obtain ⟨m2a, m2b⟩ := m2
      obtain ⟨m3a, m3b⟩ := m3
      clear hS C1 C1' ho hn1 hn2 M1 M2 M3 M4 KE F1 F2 HBZ m4
      go_upto_if 144 with fail
      go_cut [34] (fun s34 wx => s34 = .int .i64 S ∧ wr = wx)
      case first =>
        by_cases hbd : b * d < 0
        · have e : S = -(a * d - c * b) := by rw [HS.out, if_pos hbd]
          have HE := Lib.hid e
          clear e
          go_wp2_with fail
          go_meet
          exact ⟨by rw [HE.out], by first | rfl | trivial⟩
        · have e : S = a * d - c * b := by rw [HS.out, if_neg hbd]
          have HE := Lib.hid e
          have hbd2 : decide (b * d < 0) = false := decide_eq_false hbd
          clear e
          go_wp2_with fail
          go_meet
          exact ⟨by rw [HE.out], by first | rfl | trivial⟩
      case rest =>
        obtain ⟨rfl, rfl⟩ := hcut
        go_upto_if 148 with fail
        go_cut [9, 10] (fun s9 s10 wx => s9 = .int .i64 n' ∧ s10 = .int .i64 m' ∧ wr = wx)
        case first =>
          by_cases hb : b < 0
          · have HE := Lib.hid (HN1.out hb)
            go_wp2_with fail
            go_meet
            exact ⟨by rw [HE.out.1], by rw [HE.out.2], by first | rfl | trivial⟩
          · have HE := Lib.hid (HN2.out (by omega))
            have hb2 : decide (b < 0) = false := decide_eq_false hb
            go_wp2_with fail
            go_meet
            exact ⟨by rw [HE.out.1], by rw [HE.out.2], by first | rfl | trivial⟩
        case rest =>
          obtain ⟨rfl, rfl, rfl⟩ := hcut
          clear HN1 HN2 HS m1a m1b m2a m2b m3a m3b
          have p1 := mul_bd2 (a := z) (b := m') (by omega) (by omega)
          have p2 := mul_bd2 (a := z + 1) (b := m') (by omega) (by omega)
          obtain ⟨p1a, p1b⟩ := p1
          obtain ⟨p2a, p2b⟩ := p2
          have e1 : o = min 1 (max (-1) S) := HO.out
          have e2 : (o == min 1 (max (-1) S)) = true := by rw [← e1]; simp
          clear e1
          obtain ⟨cu0, cu1, cu2, cu3⟩ := bk4 Ku
          obtain ⟨cv0, cv1, cv2, cv3⟩ := bk4 Kv
          go_wp2_with fail
          with_reducible refine (same_eqC Vu.out Vv.out C2.out).mono ?_
          clear cu0 cu1 cu2 cu3 cv0 cv1 cv2 cv3
          rintro e x19 ⟨rfl, hy⟩
          replace hx := hx.trans hy
          replace Ku := kE Ku hy
          replace Kv := kE Kv hy
          replace Kp := kE Kp hy
          replace Kg := kE Kg hy
          replace Ke := kE Ke hy
          replace Vx := Lib.hid (Vx.out.ext hy)
          replace Vq := Lib.hid (Vq.out.ext hy)
          replace Vu := Lib.hid (Vu.out.ext hy)
          replace Vv := Lib.hid (Vv.out.ext hy)
          replace Vp := Lib.hid (Vp.out.ext hy)
          replace Vg := Lib.hid (Vg.out.ext hy)
          replace Vf := Lib.hid (Vf.out.ext hy)
          clear hy
          obtain ⟨cp0, cp1, cp2, cp3⟩ := bk4 Kp
          obtain ⟨cg0, cg1, cg2, cg3⟩ := bk4 Kg
          go_wp2_with fail
          with_reducible refine (same_eqC Vp.out Vg.out C3.out).mono ?_
          clear cp0 cp1 cp2 cp3 cg0 cg1 cg2 cg3
          rintro e x20 ⟨rfl, hy⟩
          replace hx := hx.trans hy
          replace Ku := kE Ku hy
          replace Kv := kE Kv hy
          replace Kp := kE Kp hy
          replace Kg := kE Kg hy
          replace Ke := kE Ke hy
          replace Vx := Lib.hid (Vx.out.ext hy)
          replace Vq := Lib.hid (Vq.out.ext hy)
          replace Vu := Lib.hid (Vu.out.ext hy)
          replace Vv := Lib.hid (Vv.out.ext hy)
          replace Vp := Lib.hid (Vp.out.ext hy)
          replace Vg := Lib.hid (Vg.out.ext hy)
          replace Vf := Lib.hid (Vf.out.ext hy)
          clear hy
          go_wp2_with fail
          go_ret
          exact ⟨rfl, hx⟩
theorem law_Cross (a b c d : Int) (w : World) (ha : -32768 ≤ a ∧ a ≤ 32767) (hb : -32768 ≤ b ∧ b ≤ 32767) (hc : -32768 ≤ c ∧ c ≤ 32767) (hd : -32768 ≤ d ∧ d ≤ 32767) : Calls Tryd.prog 3 #[.int .i16 a, .int .i16 b, .int .i16 c, .int .i16 d] w fun e w' => e = .returned (.bool true) ∧ Ext w w' := by
  by_cases h1 : b = 0
  · exact law_Cross_b0 a b c d ha hb hc hd w h1
  by_cases h2 : d = 0
  · exact law_Cross_d0 a b c d ha hb hc hd w ⟨h1, h2⟩
  · exact law_Cross_ok a b c d ha hb hc hd w h1 h2
end Go.Proofs.YtnpeakahiedeoaaDoor

namespace Go.Proofs.YtnpeakahiedeoaaDoor
open Go.ChangeShapes Go.WideShapes Go.ChangeAt Go.RowKit
set_option linter.unusedVariables false
set_option maxRecDepth 100000

theorem ownRatioCross : ownKnob Tryd.prog.godebug = none := by kernel_rfl
theorem laidOutRatioCross : laidOutB Tryd.prog = true := by kernel_rfl

theorem liftedRatioCross (os : Os) (started : os.Started) (H : Type) (enc : TypeId × Value → H) :
    ReturnsInHanded {} Tryd.checked os 3 .any (fun w args => (Rows.ratioCrossSpec.pre enc Tryd.prog Tryd.f3 [] false w args ∧ laidMetH Tryd.prog Rows.ratioCrossRow.laid w) ∧ sizedMet enc Tryd.prog Tryd.f3 (OpenSpec.ofChange Rows.ratioCrossSpec) false w args)
      (Rows.ratioCrossSpec.post enc Tryd.prog Tryd.f3 false true false false) := by
  refine returnsInHanded_of_change_and (C := Tryd.checked) (X := fun w _ => laidMetH Tryd.prog Rows.ratioCrossRow.laid w) (fun _ _ _ hh h => h.of_heap hh) ownRatioCross started (by kernel_rfl) Tryd.func3
    (ChangeSpec.witness_shaped (enc := enc) (C := Tryd.checked) (os := os) (X := fun w _ => laidMetH Tryd.prog Rows.ratioCrossRow.laid w) false (World.laidAll Tryd.prog os Rows.ratioCrossRow.laid) #[.int .i16 0, .int .i16 0, .int .i16 0, .int .i16 0] 8 (World.laidAll_os _ _ _)
      (World.shaped_of_ZipB (by kernel_rfl) (by kernel_rfl)) (by kernel_rfl) (by kernel_rfl) (by kernel_rfl)
      (by rw [MakeChecks.laidMetH_plain _ _ _ (by kernel_rfl)]; exact laidMet_laidAll _ (by kernel_rfl) (by kernel_rfl))) ?_
  intro W base args ds gs before hval0 hW _ _ hL _
  have hval : ∀ (j : Nat) t v, Tryd.f3.params[j]? = some t → args[j]? = some v → Value.okWide Tryd.prog W .any base t v := hval0
  have hW' := hW
  obtain ⟨p, q, hA0, hV, rfl, hfz, hnd⟩ := hW
  have hA : DataW.TrodAll enc Tryd.prog W 0 (fun _ => true) true Tryd.f3.params.toList args.toList ds p := hA0
  rw [Tryd.params3] at hA hval
  obtain ⟨v0, vs0, d0, ds0, p0, q0, hargs, rfl, rfl, h0, r0⟩ := trodAll_cons hA
  obtain ⟨v1, vs1, d1, ds1, p1, q1, rfl, rfl, rfl, h1, r1⟩ := trodAll_cons r0
  obtain ⟨v2, vs2, d2, ds2, p2, q2, rfl, rfl, rfl, h2, r2⟩ := trodAll_cons r1
  obtain ⟨v3, vs3, d3, ds3, p3, q3, rfl, rfl, rfl, h3, r3⟩ := trodAll_cons r2
  obtain ⟨rfl, rfl, rfl⟩ := trodAll_nil r3
  obtain rfl : args = #[v0, v1, v2, v3] := by cases args; simp_all
  obtain ⟨rfl, rfl⟩ := trodVars_none hV
  have k0 := h0
  have lt0 : ∀ x ∈ p0, x.block < W.heap.size := by obtain ⟨m, hm⟩ := k0; exact DataW.trod_lt m _ _ _ hm
  have k1 := h1
  have lt1 : ∀ x ∈ p1, x.block < W.heap.size := by obtain ⟨m, hm⟩ := k1; exact DataW.trod_lt m _ _ _ hm
  have k2 := h2
  have lt2 : ∀ x ∈ p2, x.block < W.heap.size := by obtain ⟨m, hm⟩ := k2; exact DataW.trod_lt m _ _ _ hm
  have k3 := h3
  have lt3 : ∀ x ∈ p3, x.block < W.heap.size := by obtain ⟨m, hm⟩ := k3; exact DataW.trod_lt m _ _ _ hm
  obtain ⟨n0, rfl, w0⟩ := open_i16 (hval 0 22 v0 rfl rfl) h0
  obtain ⟨n1, rfl, w1⟩ := open_i16 (hval 1 22 v1 rfl rfl) h1
  obtain ⟨n2, rfl, w2⟩ := open_i16 (hval 2 22 v2 rfl rfl) h2
  obtain ⟨n3, rfl, w3⟩ := open_i16 (hval 3 22 v3 rfl rfl) h3
  clear hA0 hval0 hL
  refine (law_Cross n0 n1 n2 n3 W w0 w1 w2 w3).mono fun e W' ⟨he, bel⟩ => ?_
  subst he
  exact ⟨_, rfl, _, _, _, [], _, [], hW', trodAll_mk1 (shut_bool Tryd.underlying4 _), (trodAll_cons_mk (Below.trod laidOutRatioCross (by kernel_rfl) (of_decide_eq_true (by kernel_rfl)) k0 bel lt0) (trodAll_cons_mk (Below.trod laidOutRatioCross (by kernel_rfl) (of_decide_eq_true (by kernel_rfl)) k1 bel lt1) (trodAll_cons_mk (Below.trod laidOutRatioCross (by kernel_rfl) (of_decide_eq_true (by kernel_rfl)) k2 bel lt2) (trodAll_cons_mk (Below.trod laidOutRatioCross (by kernel_rfl) (of_decide_eq_true (by kernel_rfl)) k3 bel lt3) trodAll_mk0)))), rfl, bel.frame _, fun h => by cases h⟩

theorem ratioCross_row : Rows.RatioCrossSaid :=
  OpenClaim.holds_of_wide 3 Tryd.f3 rfl rfl rfl rfl rfl rfl rfl ⟨rfl, rfl, rfl, rfl, rfl⟩ rfl rfl rfl rfl rfl (by kernel_rfl) Tryd.func3 (by kernel_rfl)
    (of_decide_eq_true (by kernel_rfl)) (by unfold Func.isWrapper; rw [if_neg (of_decide_eq_false (by kernel_rfl))]; exact ⟨rfl, rfl⟩)
    (fun os started H enc _ => liftedRatioCross os started H enc)
theorem ratioCross_holds : Rows.RatioCrossCardSaid :=
  Claim7.holds_tied_plain_at .later [] [.data, .pinned] true (true, "9cd5436e5ace6296d6bbffd14f956976f92eee396d941e7b96a58421aa7b5d5a") true ratioCross_row (fun _ h => by cases h) (by kernel_rfl) (fun _ h => by cases h) ratioCross_row_tie rfl ⟨rfl, rfl⟩ (by kernel_rfl) rfl
    (fun f fn hf hfn => by
      obtain rfl : f = 3 := Option.some.inj ((show Tryd.prog.funcNamed "podium/podiumlaw10.RatioCross" = some 3 by kernel_rfl).symm.trans hf) |>.symm
      obtain rfl : fn = Tryd.f3 := (Option.some.inj (Tryd.func3.symm.trans hfn)).symm
      exact ⟨by kernel_rfl, fun j t ht => by
        rw [Tryd.params3] at ht
        have hm : t ∈ [22, 22, 22, 22] := by simpa using Array.mem_of_getElem? ht
        have hall : ([22, 22, 22, 22].all fun u => !Tryd.prog.wantsStandIn u) = true := by kernel_rfl
        exact (show Tryd.prog.wantsStandIn t = false by simpa using List.all_eq_true.1 hall t hm)⟩)
    (by kernel_rfl)

#print axioms ratioCross_holds
end Go.Proofs.YtnpeakahiedeoaaDoor

