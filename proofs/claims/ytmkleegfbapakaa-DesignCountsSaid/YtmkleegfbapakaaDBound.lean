import Derived.Test.YtmkleegfbapakaaDRight2
import Derived.Test.YtmkleegfbapakaaBlk
import Derived.Deep.Cut
import Derived.Test.YtmkleegfbapakaaDCheck
namespace Go.Proofs.Ytmkleegfbapakaa
open Go.RowKit Go D28 BigFrame
set_option maxRecDepth 100000

theorem pairsI_bd (n : Int) (h0 : 0 ≤ n) (h : n ≤ 4097) : 0 ≤ n * (n - 1) ∧ n * (n - 1) ≤ 16785409 := by
  by_cases hz : n = 0
  · subst hz; omega
  · have h1 : 0 ≤ n * (n - 1) := Int.mul_nonneg h0 (by omega)
    have h2 : n * (n - 1) ≤ 4097 * 4097 := Int.mul_le_mul h (by omega) (by omega) (by omega)
    omega

theorem desPairs (n : Int) (w : World) (h0 : 0 ≤ n) (h : n ≤ 4097) :
    Calls Try.prog 53 #[.int .i64 n] w fun e w' => e = .returned (.int .i64 (pairsI n)) ∧ w = w' := by
  obtain ⟨h1, h2⟩ := pairsI_bd n h0 h
  go_enter Try.func53, Try.ntmps53
  go_wp2
  go_ret
  exact ⟨rfl, rfl⟩
theorem refPairs (n : Int) (w : World) (h0 : 0 ≤ n) (h : n ≤ 4097) :
    Calls Try.prog 54 #[.int .i64 n] w fun e w' => e = .returned (.int .i64 (pairsI n)) ∧ w = w' := by
  obtain ⟨h1, h2⟩ := pairsI_bd n h0 h
  go_enter Try.func54, Try.ntmps54
  go_wp2
  go_ret
  exact ⟨rfl, rfl⟩
theorem bound_facts {J S N : Int} {bad : List (List Bool)} (h : rightB J S N bad = true) :
    0 ≤ (bad.length : Int) * S ∧ (bad.length : Int) * S ≤ 1048576 ∧ 0 ≤ (bad.length : Int) * S / J ∧ (bad.length : Int) * S / J ≤ 4096 ∧ 0 ≤ (bad.length : Int) * S % J ∧ (bad.length : Int) * S % J < J := by
  obtain ⟨_, h1, h2, h3, h4, h5⟩ := right_rows h
  have hn : (0 : Int) ≤ (bad.length : Int) := by omega
  have hn2 : (bad.length : Int) ≤ 4096 := by omega
  have a1 : 0 ≤ (bad.length : Int) * S := Int.mul_nonneg hn (by omega)
  have a2 : (bad.length : Int) * S ≤ 4096 * 256 := Int.mul_le_mul hn2 (by omega) (by omega) (by omega)
  have a3 : 0 ≤ (bad.length : Int) * S / J := Int.ediv_nonneg a1 (by omega)
  have a4 : (bad.length : Int) * S ≤ 4096 * J := Int.mul_le_mul hn2 h4 (by omega) (by omega)
  have a5 : (bad.length : Int) * S / J ≤ 4096 := by
    have := Int.ediv_le_ediv (show 0 < J by omega) a4
    rwa [Int.mul_ediv_cancel _ (by omega)] at this
  exact ⟨a1, by omega, a3, a5, Int.emod_nonneg _ (by omega), Int.emod_lt_of_pos _ (by omega)⟩

theorem pairsI_bd2 (n : Int) (h0 : 0 ≤ n) (h : n ≤ 4097) : 0 ≤ pairsI n ∧ pairsI n ≤ 8392704 := by
  obtain ⟨h1, h2⟩ := pairsI_bd n h0 h
  unfold pairsI; omega
theorem pairsI_pos (n : Int) (h0 : 2 ≤ n) (h : n ≤ 4097) : 1 ≤ pairsI n := by
  have h2 : 2 * 1 ≤ n * (n - 1) := Int.mul_le_mul h0 (by omega) (by omega) (by omega)
  unfold pairsI; omega

theorem bPair_eq {J S n q r : Int} (hq : n * S / J = q) (hr : n * S % J = r) :
    bPair J S n = if 1 < n then (if (r * pairsI (q + 1) + (J - r) * pairsI q) / pairsI n < S then (r * pairsI (q + 1) + (J - r) * pairsI q) / pairsI n else S) else S := by
  subst hq; subst hr; rfl

set_option maxHeartbeats 800000 in
theorem desBound_no (J S N : Int) (a : Option Addr) (cap : Nat) (bad : List (List Bool)) (w : World) (h : BRows w a cap bad) (hr : rightB J S N bad = false) :
    Calls Try.prog 21 #[.agg #[.int .i64 J, .int .i64 S, .int .i64 N, .slice a bad.length cap]] w fun e w' => e = .returned (.tuple #[.agg #[.int .i64 0, .int .i64 0, .int .i64 0, .int .i64 0], .int .i64 290]) ∧ Ext w w' := by
  have hle := h.le
  have hmx := h.mx
  have hb0 := h.ext (Ext.alloc w (.cells #[.int .i64 J, .int .i64 S, .int .i64 N, .slice a bad.length cap] 24))
  have HR := Lib.hid hr
  clear hr
  go_enter Try.func21, Try.ntmps21
  go_wp2_with fail
  refine (desRight _ _ _ _ _ _ _ (hb0.ext (Ext.alloc _ _))).mono ?_
  rw [HR.out]
  rintro e w1 ⟨rfl, hx⟩
  have kr := (Blk.new1 w (.cells #[.int .i64 J, .int .i64 S, .int .i64 N, .slice a bad.length cap] 24) _ _).ext hx
  have k0 := kr.cell (i := 0) rfl
  have k1 := kr.cell (i := 1) rfl
  have k2 := kr.cell (i := 2) rfl
  have k3 := kr.cell (i := 3) rfl
  have f0 := kr.free 0
  have f1 := kr.free 1
  have f2 := kr.free 2
  have f3 := kr.free 3
  have hxw : Ext w w1 := ((Ext.alloc _ _).alloc' _).trans hx
  clear kr
  go_wp2_with fail
  refine bodyPost_ret (v := .tuple #[.agg #[.int .i64 0, .int .i64 0, .int .i64 0, .int .i64 0], .int .i64 290]) (by simp [results, Try.results21, go_sem, k0, k1, k2, k3]) rfl ⟨rfl, (by repeat (first | with_reducible exact Ext.refl _ | with_reducible assumption | with_reducible refine Ext.drewN ?_ _ | with_reducible refine Ext.drew ?_ | with_reducible refine Ext.alloc' ?_ _ | with_reducible refine Ext.set ?_ (by dsimp only; omega) _))⟩
set_option maxHeartbeats 800000 in
theorem desBound_yes (J S N : Int) (a : Option Addr) (cap : Nat) (bad : List (List Bool)) (w : World) (h : BRows w a cap bad) (hr : rightB J S N bad = true) :
    Calls Try.prog 21 #[.agg #[.int .i64 J, .int .i64 S, .int .i64 N, .slice a bad.length cap]] w fun e w' => e = .returned (.tuple #[.agg #[.int .i64 (bLeast J S bad.length), .int .i64 (bMost J S bad.length), .int .i64 (bPair J S bad.length), .int .i64 0], .int .i64 0]) ∧ Ext w w' := by
  have hle := h.le
  have hmx := h.mx
  have hb0 := h.ext (Ext.alloc w (.cells #[.int .i64 J, .int .i64 S, .int .i64 N, .slice a bad.length cap] 24))
  have HF := bound_facts hr
  obtain ⟨_, i1, i2, i3, i4, i5⟩ := right_rows hr
  have HR := Lib.hid hr
  clear hr
  go_enter Try.func21, Try.ntmps21
  go_wp2_with fail
  refine (desRight _ _ _ _ _ _ _ (hb0.ext (Ext.alloc _ _))).mono ?_
  rw [HR.out]
  rintro e w1 ⟨rfl, hx⟩
  have kr := (Blk.new1 w (.cells #[.int .i64 J, .int .i64 S, .int .i64 N, .slice a bad.length cap] 24) _ _).ext hx
  have kb := ((Blk.new0 w #[.int .i64 J, .int .i64 S, .int .i64 N, .slice a bad.length cap] 24).alloc _).ext hx
  have k0 := kr.cell (i := 0) (v := .int .i64 0) rfl
  have k1 := kr.cell (i := 1) (v := .int .i64 0) rfl
  have k2 := kr.cell (i := 2) (v := .int .i64 0) rfl
  have k3 := kr.cell (i := 3) (v := .int .i64 0) rfl
  have f0 := kr.free 0
  have f1 := kr.free 1
  have f2 := kr.free 2
  have f3 := kr.free 3
  have b0 := kb.cell (i := 0) (v := .int .i64 J) rfl
  have b1 := kb.cell (i := 1) (v := .int .i64 S) rfl
  have b2 := kb.cell (i := 2) (v := .int .i64 N) rfl
  have b3 := kb.cell (i := 3) (v := .slice a bad.length cap) rfl
  have hxw : Ext w w1 := ((Ext.alloc _ _).alloc' _).trans hx
  clear hx
  obtain ⟨j1, j2, j3, j4, j5, j6⟩ := HF
  have hJ : ¬ J = 0 := by omega
  have KR := Lib.hid kr
  have KB := Lib.hid kb
  clear kr kb
  go_wp2_with fail
  go_big_quiet (fail)
  have kr := KR.out
  have kb := KB.out
  have eL : bLeast J S bad.length = (bad.length : Int) * S / J := rfl
  have eM : bMost J S bad.length = (bad.length : Int) * S / J + (if 1 < (bad.length : Int) * S % J then 1 else (bad.length : Int) * S % J) := rfl
  generalize hn : (bad.length : Int) = n at *
  generalize hq : n * S / J = q at *
  generalize hrr : n * S % J = r at *
  have EP := Lib.hid (bPair_eq hq hrr)
  clear hq hrr
  have EL := Lib.hid eL
  have EM := Lib.hid eM
  clear eL eM
  obtain ⟨m, hm⟩ : ∃ m : Int, (if 1 < r then 1 else r) = m := ⟨_, rfl⟩
  have hm0 : 0 ≤ m ∧ m ≤ 1 := by omega
  obtain ⟨hm1, hm2⟩ := hm0
  go_upto_region 6 with fail
  have HM := Lib.hid hm
  clear hm
  have kr2 := ((((kr.drewN nq).set 0 (.int .i64 q)).set 1 (.int .i64 (q + m))).set 2 (.int .i64 S)).set 3 (.int .i64 0)
  have kb2 := ((((kb.drewN nq).other (p := ⟨w.heap.size + 1, 0, none⟩) (by simp) (.int .i64 q)).other (p := ⟨w.heap.size + 1, 1, none⟩) (by simp) (.int .i64 (q + m))).other (p := ⟨w.heap.size + 1, 2, none⟩) (by simp) (.int .i64 S)).other (p := ⟨w.heap.size + 1, 3, none⟩) (by simp) (.int .i64 0)
  have hx2 : Ext w (((((w1.drewN nq).setCell ⟨w.heap.size + 1, 0, none⟩ (.int .i64 q)).setCell ⟨w.heap.size + 1, 1, none⟩ (.int .i64 (q + m))).setCell ⟨w.heap.size + 1, 2, none⟩ (.int .i64 S)).setCell ⟨w.heap.size + 1, 3, none⟩ (.int .i64 0)) := (by repeat (first | with_reducible exact Ext.refl _ | with_reducible assumption | with_reducible refine Ext.drewN ?_ _ | with_reducible refine Ext.drew ?_ | with_reducible refine Ext.alloc' ?_ _ | with_reducible refine Ext.set ?_ (by dsimp only; omega) _))
  clear k0 k1 k2 k3 f0 f1 f2 f3 b0 b1 b2 b3 hxw kr kb
  generalize (((((w1.drewN nq).setCell ⟨w.heap.size + 1, 0, none⟩ (.int .i64 q)).setCell ⟨w.heap.size + 1, 1, none⟩ (.int .i64 (q + m))).setCell ⟨w.heap.size + 1, 2, none⟩ (.int .i64 S)).setCell ⟨w.heap.size + 1, 3, none⟩ (.int .i64 0)) = w2 at *
  have k0 := kr2.cell (i := 0) (v := .int .i64 q) rfl
  have k1 := kr2.cell (i := 1) (v := .int .i64 (q + m)) rfl
  have k2 := kr2.cell (i := 2) (v := .int .i64 S) rfl
  have k3 := kr2.cell (i := 3) (v := .int .i64 0) rfl
  have b0 := kb2.cell (i := 0) (v := .int .i64 J) rfl
  have f0 := kr2.free 0
  have f1 := kr2.free 1
  have f2 := kr2.free 2
  have f3 := kr2.free 3
  by_cases c1 : 1 < n
  · have p1 := pairsI_bd2 q (by omega) (by omega)
    have p2 := pairsI_bd2 (q + 1) (by omega) (by omega)
    have p3 := pairsI_pos n (by omega) (by omega)
    go_upto_region 7 with fail
    have L0 := later_cell k0
    have L2 := later_cell k2
    have LB := later_cell b0
    have e1 : (0 : Int) ≤ q + 1 := by omega
    have e2 : q + 1 ≤ 4097 := by omega
    have e3 : (0 : Int) ≤ n := by omega
    have e4 : n ≤ 4097 := by omega
    obtain ⟨P1, hP1⟩ : ∃ P, pairsI (q + 1) = P := ⟨_, rfl⟩
    obtain ⟨P0, hP0⟩ : ∃ P, pairsI q = P := ⟨_, rfl⟩
    obtain ⟨Pn, hPn⟩ : ∃ P, pairsI n = P := ⟨_, rfl⟩
    have C1 := Lib.hid (fun W : Later w2 => later_same (W := W) (by have := desPairs (q + 1) W.1 e1 e2; rwa [hP1] at this))
    have C0 := Lib.hid (fun W : Later w2 => later_same (W := W) (by have := desPairs q W.1 j3 (by omega); rwa [hP0] at this))
    have Cn := Lib.hid (fun W : Later w2 => later_same (W := W) (by have := desPairs n W.1 e3 e4; rwa [hPn] at this))
    rw [hP0] at p1
    rw [hP1] at p2
    rw [hPn] at p3
    have HP := Lib.hid (And.intro hP0 (And.intro hP1 hPn))
    clear hP0 hP1 hPn
    obtain ⟨p1a, p1b⟩ := p1
    obtain ⟨p2a, p2b⟩ := p2
    have m1 : 0 ≤ r * P1 := Int.mul_nonneg j5 p2a
    have m2 : r * P1 ≤ 256 * 8392704 := Int.mul_le_mul (by omega) p2b p2a (by omega)
    have m3 : 0 ≤ (J - r) * P0 := Int.mul_nonneg (by omega) p1a
    have m4 : (J - r) * P0 ≤ 256 * 8392704 := Int.mul_le_mul (by omega) p1b p1a (by omega)
    have hPn0 : ¬ Pn = 0 := by omega
    have m5 : 0 ≤ (r * P1 + (J - r) * P0) / Pn := Int.ediv_nonneg (by omega) (by omega)
    refine wp_region_later_tail 20 (by kernel_rfl) (by kernel_rfl) ?_; simp only [List.take_succ_cons, List.take_zero, List.drop_succ_cons, List.drop_zero]; repeat (go_big_quiet_step ((first | (go_at_call 53; exact C1.out _) | (go_at_call 53; exact C0.out _) | (go_at_call 53; exact Cn.out _))))
    refine wpQuiet_nil ?_; rintro _ ⟨⟨W1, HW1⟩, rfl⟩; (try dsimp only)
    obtain ⟨g, hg⟩ : ∃ g : Int, (r * P1 + (J - r) * P0) / Pn = g := ⟨_, rfl⟩
    rw [hg] at m5
    obtain ⟨P, hP⟩ : ∃ P : Int, (if g < S then g else S) = P := ⟨_, rfl⟩
    have kr3 := kr2.ext HW1
    clear k0 k1 k2 k3 f0 f1 f2 f3 L0 L2 LB b0
    have k0 := kr3.cell (i := 0) (v := .int .i64 q) rfl
    have k1 := kr3.cell (i := 1) (v := .int .i64 (q + m)) rfl
    have k2 := kr3.cell (i := 2) (v := .int .i64 S) rfl
    have k3 := kr3.cell (i := 3) (v := .int .i64 0) rfl
    have f0 := kr3.free 0
    have f1 := kr3.free 1
    have f2 := kr3.free 2
    have f3 := kr3.free 3
    have hx3 := hx2.trans HW1
    go_wp2_with fail
    all_goals refine bodyPost_ret (v := .tuple #[.agg #[.int .i64 q, .int .i64 (q + m), .int .i64 P, .int .i64 0], .int .i64 0]) (by simp [results, Try.results21, go_sem, k0, k1, k2, k3]) rfl ⟨?_, (by repeat (first | with_reducible exact Ext.refl _ | with_reducible assumption | with_reducible refine Ext.drewN ?_ _ | with_reducible refine Ext.drew ?_ | with_reducible refine Ext.alloc' ?_ _ | with_reducible refine Ext.set ?_ (by dsimp only; omega) _))⟩
    all_goals
      obtain ⟨q1, q2, q3⟩ := HP.out
      rw [EL.out, EM.out, HM.out, EP.out, if_pos c1, q1, q2, q3, hg, hP]
  · go_wp2_with fail
    refine bodyPost_ret (v := .tuple #[.agg #[.int .i64 q, .int .i64 (q + m), .int .i64 S, .int .i64 0], .int .i64 0]) (by simp [results, Try.results21, go_sem, k0, k1, k2, k3]) rfl ⟨?_, (by repeat (first | with_reducible exact Ext.refl _ | with_reducible assumption | with_reducible refine Ext.drewN ?_ _ | with_reducible refine Ext.drew ?_ | with_reducible refine Ext.alloc' ?_ _ | with_reducible refine Ext.set ?_ (by dsimp only; omega) _))⟩
    rw [EL.out, EM.out, HM.out, EP.out, if_neg (by omega)]
end Go.Proofs.Ytmkleegfbapakaa
