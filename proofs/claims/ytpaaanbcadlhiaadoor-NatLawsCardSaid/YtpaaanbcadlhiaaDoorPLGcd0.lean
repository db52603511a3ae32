import Derived.Test.YtpaaanbcadlhiaaDoorPLaw1
import Derived.Test.YtpaaanbcadlhiaaDoorPDivG
namespace Go.Proofs.YtpaaanbcadlhiaaDoor
open Go.RowKit Go BigFrame
set_option maxRecDepth 100000
set_option linter.unusedSimpArgs false
set_option linter.unusedVariables false

/-! Pieces for the laws on division: how great numbers of few digits are; the law's own 'divides'. -/
theorem abs_lt {z : Int} {n : Nat} (h : (digs z.natAbs).length ≤ n) : z.natAbs < 1073741824 ^ n := by
  have h1 := dval_lt (digs_norm z.natAbs).digs
  rw [digs_val] at h1
  have h2 : (1073741824 : Int) ^ (digs z.natAbs).length ≤ 1073741824 ^ n := pow_le30 h
  have h3 : ((z.natAbs : Nat) : Int) < ((1073741824 ^ n : Nat) : Int) := by rw [Int.natCast_pow]; exact Int.lt_of_lt_of_le h1 h2
  exact Int.ofNat_lt.1 h3
theorem len_lt {z : Int} {n : Nat} (h : z.natAbs < 1073741824 ^ n) (hn : n ≤ 2048) : Len z := len_pow h hn
theorem mul_lt {x y : Int} {n m : Nat} (hx : x.natAbs < 1073741824 ^ n) (hy : y.natAbs < 1073741824 ^ m) : (x * y).natAbs < 1073741824 ^ (n + m) := by
  rw [Int.natAbs_mul, Nat.pow_add]
  exact Nat.mul_lt_mul'' hx hy
theorem add_lt {x y : Int} {n : Nat} (hx : x.natAbs < 1073741824 ^ n) (hy : y.natAbs < 1073741824 ^ n) : (x + y).natAbs < 1073741824 ^ (n + 1) := by
  rw [Nat.pow_succ]; omega
theorem sub_lt {x y : Int} {n : Nat} (hx : x.natAbs < 1073741824 ^ n) (hy : y.natAbs < 1073741824 ^ n) : (x - y).natAbs < 1073741824 ^ (n + 1) := by
  rw [Nat.pow_succ]; omega
theorem gcd_lt {x y : Int} {n : Nat} (hx : x.natAbs < 1073741824 ^ n) (hy : y.natAbs < 1073741824 ^ n) : ((Int.gcd x y : Nat) : Int).natAbs < 1073741824 ^ n := by
  rw [Int.natAbs_natCast]
  by_cases h : x = 0
  · subst h; rw [Int.gcd_zero_left]; exact hy
  · exact Nat.lt_of_le_of_lt (Nat.le_of_dvd (by omega) (Int.gcd_dvd_natAbs_left x y)) hx
theorem rcheck_val {v : Value} {z : Int} {w : World} (hv : BigV w v z) (hz : Len z) : Calls Tryd.prog 33 #[v] w fun e w' => e = .returned (.int .i64 0) ∧ Ext w w' := by
  obtain ⟨n1, l, ⟨a, ca, rfl, hi⟩, hb⟩ := hv
  have h := ref_Check n1 a ca l w hi
  rw [hb.chk hz] at h
  exact h
/-- The sign of an integer that is not negative. -/
theorem BigV.pos {n : Bool} {a : Option Addr} {q c : Nat} {z : Int} {w : World} (h : BigV w (.agg #[.bool n, .slice a q c]) z) (hz : 0 ≤ z) : n = false := by
  obtain ⟨n', l, ⟨a', c', e, hi⟩, hb⟩ := h
  simp only [Value.agg.injEq, Array.mk.injEq, List.cons.injEq, Value.bool.injEq, Value.slice.injEq, and_true] at e
  obtain ⟨rfl, _⟩ := e
  cases n
  · rfl
  · have h1 := hb.2.1 rfl
    have h2 := dval_pos hb.1 h1
    have h3 := hb.2.2
    simp at h3; omega
theorem BigV.abs {n : Bool} {a : Option Addr} {q c : Nat} {z : Int} {w : World} (h : BigV w (.agg #[.bool n, .slice a q c]) z) : BigV w (.agg #[.bool false, .slice a q c]) (z.natAbs : Int) := by
  obtain ⟨n', l, ⟨a', c', e, hi⟩, hb⟩ := h
  simp only [Value.agg.injEq, Array.mk.injEq, List.cons.injEq, Value.bool.injEq, Value.slice.injEq, and_true] at e
  obtain ⟨rfl, rfl, rfl, rfl⟩ := e
  refine ⟨false, l, ⟨a, c, rfl, hi⟩, hb.1, by simp, ?_⟩
  have h2 := dval_nonneg hb.1.digs
  have h3 := hb.2.2
  cases n <;> simp at h3 ⊢ <;> omega
theorem BigV.len0 {n : Bool} {a : Option Addr} {q c : Nat} {z : Int} {w : World} (h : BigV w (.agg #[.bool n, .slice a q c]) z) : q = 0 ↔ z = 0 := by
  obtain ⟨n', l, ⟨a', c', e, hi⟩, hb⟩ := h
  simp only [Value.agg.injEq, Array.mk.injEq, List.cons.injEq, Value.bool.injEq, Value.slice.injEq, and_true] at e
  obtain ⟨rfl, rfl, rfl, rfl⟩ := e
  constructor
  · intro h
    obtain rfl := List.length_eq_zero_iff.1 h
    have := hb.2.2
    simp [dval] at this; exact this
  · intro h
    by_cases hl : l = []
    · rw [hl]; rfl
    · have h1 := dval_pos hb.1 hl
      have h2 := hb.2.2
      rw [h] at h2
      split at h2 <;> omega
theorem BigV.le {n : Bool} {a : Option Addr} {q c : Nat} {z : Int} {w : World} (h : BigV w (.agg #[.bool n, .slice a q c]) z) : q ≤ 9223372036854775807 := by
  obtain ⟨n', l, ⟨a', c', e, hi⟩, hb⟩ := h
  simp only [Value.agg.injEq, Array.mk.injEq, List.cons.injEq, Value.bool.injEq, Value.slice.injEq, and_true] at e
  obtain ⟨rfl, rfl, rfl, rfl⟩ := e
  exact Nat.le_trans hi.le hi.mx
/-- Integers lie elsewhere than boxes do. -/
theorem BigV.box {w : World} {v : Value} {z : Int} {p : Nat} {b : Bool} {a : Option Addr} {q c : Nat} {t : TypeId} (h : BigV w v z) (hB : Blk w p #[.bool b, .slice a q c] t) (i : Nat) (u : Value) : BigV (w.setCell ⟨p, i, none⟩ u) v z := by
  obtain ⟨n', l, ⟨a', c', rfl, hi⟩, hb⟩ := h
  refine ⟨n', l, ⟨a', c', rfl, hi.putS (fun hp A hA => ?_) u⟩, hb⟩
  obtain ⟨b0, o0, e0⟩ := hi.head hp
  rw [e0] at hA hi
  cases hA
  intro e
  dsimp only at e
  subst e
  have h1 := (hi.cell (i := 0) hp).1
  rw [Nat.add_zero] at h1
  have hB' : w.heap[b0]? = some (.cells #[.bool b, .slice a q c] t (0, 0)) := hB
  simp only [World.cell?, hB'] at h1
  match o0, h1 with
  | 0, h1 => simp at h1
  | 1, h1 => simp at h1
  | k + 2, h1 => simp at h1
/-- Does an integer divide another one? -/
def dvdB (x y : Int) : Bool := decide (x ∣ y)
theorem dvdB_zero (y : Int) : dvdB 0 y = decide (y = 0) := by unfold dvdB; simp [Int.zero_dvd]
theorem dvdB_mod {x y : Int} (h : x ≠ 0) : dvdB x y = decide (y % x = 0) := by
  unfold dvdB
  by_cases h1 : x ∣ y
  · rw [decide_eq_true h1, decide_eq_true (Int.emod_eq_zero_of_dvd h1)]
  · rw [decide_eq_false h1, decide_eq_false (fun e => h1 (Int.dvd_of_emod_eq_zero e))]
set_option maxHeartbeats 2000000 in
theorem law_divides {nx ny : Bool} {ax ay : Option Addr} {qx qy cx cy : Nat} {x y : Int} {w : World} (hx : BigV w (.agg #[.bool nx, .slice ax qx cx]) x) (hy : BigV w (.agg #[.bool ny, .slice ay qy cy]) y) (lx : Len x) (ly : Len y) :
    Calls Tryd.prog 34 #[.agg #[.bool nx, .slice ax qx cx], .agg #[.bool ny, .slice ay qy cy]] w fun e w' => e = .returned (.bool (dvdB x y)) ∧ Ext w w' := by
  obtain ⟨w2, hw2⟩ : ∃ w2, (w.alloc (.cells #[.bool nx, .slice ax qx cx] 24)).alloc (.cells #[.bool ny, .slice ay qy cy] 24) = w2 := ⟨_, rfl⟩
  have B1 := (Blk.new0 w #[.bool nx, .slice ax qx cx] 24).alloc (.cells #[.bool ny, .slice ay qy cy] 24)
  have B2 := Blk.new1 w (.cells #[.bool nx, .slice ax qx cx] 24) #[.bool ny, .slice ay qy cy] 24
  have hxx : Ext w w2 := by rw [← hw2]; exact (by repeat (first | with_reducible exact Ext.refl _ | with_reducible assumption | with_reducible refine Ext.drewN ?_ _ | with_reducible refine Ext.drew ?_ | with_reducible refine Ext.alloc' ?_ _ | with_reducible refine Ext.set ?_ (by dsimp only; omega) _))
  rw [hw2] at B1 B2
  have bx := hx.le
  have by_ := hy.le
  have c0 := B1.cell (i := 0) (v := .bool nx) rfl
  have c1 := B1.cell (i := 1) (v := .slice ax qx cx) rfl
  have c2 := B2.cell (i := 0) (v := .bool ny) rfl
  have c3 := B2.cell (i := 1) (v := .slice ay qy cy) rfl
  have HW := Lib.hid hw2
  clear hw2 B1 B2
  by_cases h0 : qx = 0
  · have hx0 := hx.len0.1 h0
    have HR := Lib.hid (show (decide (qy = 0)) = dvdB x y from by
      rw [hx0, dvdB_zero]
      by_cases h : y = 0
      · rw [decide_eq_true h, decide_eq_true (hy.len0.2 h)]
      · rw [decide_eq_false h, decide_eq_false (fun e => h (hy.len0.1 e))])
    subst h0
    have t1 : ((qy : Int) == 0) = decide (qy = 0) := by
      by_cases h : qy = 0
      · subst h; rfl
      · rw [decide_eq_false h]; simp; omega
    clear hx hy hx0
    go_enter Tryd.func34, Tryd.ntmps34
    go_upto_region 1 with fail
    rw [HW.out]
    go_wp2_with fail
    go_ret
    exact ⟨by rw [← HR.out]; rfl, hxx⟩
  · have hx0 : x ≠ 0 := fun e => h0 (hx.len0.2 e)
    have t1 : ((qx : Int) == 0) = false := by simp; omega
    have HD := Lib.hid (div_any (hy.ext hxx) (hx.ext hxx) ly lx hx0)
    have HM := Lib.hid (dvdB_mod (y := y) hx0)
    clear hx hy
    go_enter Tryd.func34, Tryd.ntmps34
    go_upto_region 1 with fail
    rw [HW.out]
    go_wp2_with fail
    refine HD.out.mono ?_
    rintro e w3 ⟨v, u, rfl, hv, hu, hy3⟩
    obtain ⟨nv, av, qv, cv, rfl⟩ := hv.form
    obtain ⟨nu, au, qu, cu, rfl⟩ := hu.form
    have bu := hu.le
    have HR := Lib.hid (show (decide (qu = 0)) = dvdB x y from by
      rw [HM.out]
      by_cases h : y % x = 0
      · rw [decide_eq_true h, decide_eq_true (hu.len0.2 h)]
      · rw [decide_eq_false h, decide_eq_false (fun e => h (hu.len0.1 e))])
    have hx4 := ((hxx.trans hy3).alloc' (.cells #[.bool nv, .slice av qv cv] 24)).alloc' (.cells #[.bool nu, .slice au qu cu] 24)
    have t2 : ((qu : Int) == 0) = decide (qu = 0) := by
      by_cases h : qu = 0
      · subst h; rfl
      · rw [decide_eq_false h]; simp; omega
    clear hv hu HD
    go_wp2_with fail
    go_ret
    exact ⟨by rw [← HR.out]; rfl, hx4⟩
theorem divT {nx ny : Bool} {ax ay : Option Addr} {qx qy cx cy : Nat} {x y : Int} {w : World} {b : Bool} (hx : BigV w (.agg #[.bool nx, .slice ax qx cx]) x) (hy : BigV w (.agg #[.bool ny, .slice ay qy cy]) y) (lx : Len x) (ly : Len y) (e : dvdB x y = b) :
    Calls Tryd.prog 34 #[.agg #[.bool nx, .slice ax qx cx], .agg #[.bool ny, .slice ay qy cy]] w fun e w' => e = .returned (.bool b) ∧ Ext w w' := by
  have h := law_divides hx hy lx ly
  rw [e] at h; exact h
end Go.Proofs.YtpaaanbcadlhiaaDoor
