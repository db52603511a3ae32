import Derived.Test.YtmkleegfbapakaaDBound
namespace Go.Proofs.Ytmkleegfbapakaa
open Go.RowKit Go D28 BigFrame
set_option maxRecDepth 100000

set_option maxHeartbeats 800000 in
theorem refBound_no (J S N : Int) (a : Option Addr) (cap : Nat) (bad : List (List Bool)) (w : World) (h : BRows w a cap bad) (hr : rightB J S N bad = false) :
    Calls Try.prog 22 #[.agg #[.int .i64 J, .int .i64 S, .int .i64 N, .slice a bad.length cap]] w fun e w' => e = .returned (.tuple #[.agg #[.int .i64 0, .int .i64 0, .int .i64 0, .int .i64 0], .int .i64 290]) ∧ Ext w w' := by
  have hle := h.le
  have hmx := h.mx
  have hb0 := h.ext (Ext.alloc w (.cells #[.int .i64 J, .int .i64 S, .int .i64 N, .slice a bad.length cap] 24))
  have HR := Lib.hid hr
  clear hr
  go_enter Try.func22, Try.ntmps22
  go_wp2_with fail
  refine (refRight _ _ _ _ _ _ _ (hb0.ext (Ext.alloc _ _))).mono ?_
  rw [HR.out]
  rintro e w1 ⟨rfl, hx⟩
  have kr := (Blk.new1 w (.cells #[.int .i64 J, .int .i64 S, .int .i64 N, .slice a bad.length cap] 24) _ _).ext hx
  have k0 := kr.cell (i := 0) rfl
  have k1 := kr.cell (i := 1) rfl
  have k2 := kr.cell (i := 2) rfl
  have k3 := kr.cell (i := 3) rfl
  have f0 := kr.free 0
  have f1 := kr.free 1
  have f2 := kr.free 2
  have f3 := kr.free 3
  have hxw : Ext w w1 := ((Ext.alloc _ _).alloc' _).trans hx
  clear kr
  go_wp2_with fail
  refine bodyPost_ret (v := .tuple #[.agg #[.int .i64 0, .int .i64 0, .int .i64 0, .int .i64 0], .int .i64 290]) (by simp [results, Try.results22, go_sem, k0, k1, k2, k3]) rfl ⟨rfl, (by repeat (first | with_reducible exact Ext.refl _ | with_reducible assumption | with_reducible refine Ext.drewN ?_ _ | with_reducible refine Ext.drew ?_ | with_reducible refine Ext.alloc' ?_ _ | with_reducible refine Ext.set ?_ (by dsimp only; omega) _))⟩
set_option maxHeartbeats 2000000 in
theorem refBound_yes (J S N : Int) (a : Option Addr) (cap : Nat) (bad : List (List Bool)) (w : World) (h : BRows w a cap bad) (hr : rightB J S N bad = true) :
    Calls Try.prog 22 #[.agg #[.int .i64 J, .int .i64 S, .int .i64 N, .slice a bad.length cap]] w fun e w' => e = .returned (.tuple #[.agg #[.int .i64 (bLeast J S bad.length), .int .i64 (bMost J S bad.length), .int .i64 (bPair J S bad.length), .int .i64 0], .int .i64 0]) ∧ Ext w w' := by
  have hle := h.le
  have hmx := h.mx
  have hb0 := h.ext (Ext.alloc w (.cells #[.int .i64 J, .int .i64 S, .int .i64 N, .slice a bad.length cap] 24))
  have HF := bound_facts hr
  obtain ⟨_, i1, i2, i3, i4, i5⟩ := right_rows hr
  have HR := Lib.hid hr
  clear hr
  go_enter Try.func22, Try.ntmps22
  go_wp2_with fail
  refine (refRight _ _ _ _ _ _ _ (hb0.ext (Ext.alloc _ _))).mono ?_
  rw [HR.out]
  rintro e w1 ⟨rfl, hx⟩
  have kr := (Blk.new1 w (.cells #[.int .i64 J, .int .i64 S, .int .i64 N, .slice a bad.length cap] 24) _ _).ext hx
  have kb := ((Blk.new0 w #[.int .i64 J, .int .i64 S, .int .i64 N, .slice a bad.length cap] 24).alloc _).ext hx
  have b0 := kb.cell (i := 0) (v := .int .i64 J) rfl
  have b1 := kb.cell (i := 1) (v := .int .i64 S) rfl
  have b2 := kb.cell (i := 2) (v := .int .i64 N) rfl
  have b3 := kb.cell (i := 3) (v := .slice a bad.length cap) rfl
  have hxw : Ext w w1 := ((Ext.alloc _ _).alloc' _).trans hx
  have hlt := hx.lt
  simp only [World.size_alloc] at hlt
  clear hx
  obtain ⟨j1, j2, j3, j4, j5, j6⟩ := HF
  have hJ : ¬ J = 0 := by omega
  have KR := Lib.hid kr
  have KB := Lib.hid kb
  clear kr kb
  go_upto_region 7 with fail
  have eL : bLeast J S bad.length = (bad.length : Int) * S / J := rfl
  have eM : bMost J S bad.length = (bad.length : Int) * S / J + (if 1 < (bad.length : Int) * S % J then 1 else (bad.length : Int) * S % J) := rfl
  generalize hn : (bad.length : Int) = n at *
  generalize hq : n * S / J = q at *
  generalize hrr : n * S % J = r at *
  have EP := Lib.hid (bPair_eq hq hrr)
  clear hq hrr
  have EL := Lib.hid eL
  have EM := Lib.hid eM
  clear eL eM
  by_cases c0 : 0 < r
  · have hMOST : q + (if 1 < r then 1 else r) = q + 1 := by split <;> omega
    have HMOST := Lib.hid hMOST
    clear hMOST
    go_upto_region 9 with fail
    have kt := Blk.new0 w1 #[.int .i64 q, .int .i64 (q + 1), .int .i64 S, .int .i64 0] 29
    have kr := KR.out.alloc (.cells #[.int .i64 q, .int .i64 (q + 1), .int .i64 S, .int .i64 0] 29)
    have kb := KB.out.alloc (.cells #[.int .i64 q, .int .i64 (q + 1), .int .i64 S, .int .i64 0] 29)
    have hx2 : Ext w (w1.alloc (.cells #[.int .i64 q, .int .i64 (q + 1), .int .i64 S, .int .i64 0] 29)) := hxw.alloc' _
    clear b0 b1 b2 b3 hxw KR KB
    generalize (w1.alloc (.cells #[.int .i64 q, .int .i64 (q + 1), .int .i64 S, .int .i64 0] 29)) = w2 at *
    generalize hB : w1.heap.size = B at *
    clear hB
    have t0 := kt.cell (i := 0) (v := .int .i64 q) rfl
    have t1 := kt.cell (i := 1) (v := .int .i64 (q + 1)) rfl
    have t2 := kt.cell (i := 2) (v := .int .i64 S) rfl
    have t3 := kt.cell (i := 3) (v := .int .i64 0) rfl
    have g2 := kt.free 2
    have k0 := kr.cell (i := 0) (v := .int .i64 0) rfl
    have k1 := kr.cell (i := 1) (v := .int .i64 0) rfl
    have k2 := kr.cell (i := 2) (v := .int .i64 0) rfl
    have k3 := kr.cell (i := 3) (v := .int .i64 0) rfl
    have f0 := kr.free 0
    have f1 := kr.free 1
    have f2 := kr.free 2
    have f3 := kr.free 3
    have b0 := kb.cell (i := 0) (v := .int .i64 J) rfl
    have b1 := kb.cell (i := 1) (v := .int .i64 S) rfl
    by_cases c1 : 2 ≤ n
    · have p1 := pairsI_bd2 q (by omega) (by omega)
      have p2 := pairsI_bd2 (q + 1) (by omega) (by omega)
      have p3 := pairsI_pos n (by omega) (by omega)
      go_upto_region 10 with fail
      have LS := later_cell b1
      have LB := later_cell b0
      have e1 : (0 : Int) ≤ q + 1 := by omega
      have e2 : q + 1 ≤ 4097 := by omega
      have e3 : (0 : Int) ≤ n := by omega
      have e4 : n ≤ 4097 := by omega
      obtain ⟨P1, hP1⟩ : ∃ P, pairsI (q + 1) = P := ⟨_, rfl⟩
      obtain ⟨P0, hP0⟩ : ∃ P, pairsI q = P := ⟨_, rfl⟩
      obtain ⟨Pn, hPn⟩ : ∃ P, pairsI n = P := ⟨_, rfl⟩
      have C1 := Lib.hid (fun W : Later w2 => later_same (W := W) (by have := refPairs (q + 1) W.1 e1 e2; rwa [hP1] at this))
      have C0 := Lib.hid (fun W : Later w2 => later_same (W := W) (by have := refPairs q W.1 j3 (by omega); rwa [hP0] at this))
      have Cn := Lib.hid (fun W : Later w2 => later_same (W := W) (by have := refPairs n W.1 e3 e4; rwa [hPn] at this))
      rw [hP0] at p1
      rw [hP1] at p2
      rw [hPn] at p3
      have HP := Lib.hid (And.intro hP0 (And.intro hP1 hPn))
      clear hP0 hP1 hPn
      obtain ⟨p1a, p1b⟩ := p1
      obtain ⟨p2a, p2b⟩ := p2
      have m1 : 0 ≤ r * P1 := Int.mul_nonneg j5 p2a
      have m2 : r * P1 ≤ 256 * 8392704 := Int.mul_le_mul (by omega) p2b p2a (by omega)
      have m3 : 0 ≤ (J - r) * P0 := Int.mul_nonneg (by omega) p1a
      have m4 : (J - r) * P0 ≤ 256 * 8392704 := Int.mul_le_mul (by omega) p1b p1a (by omega)
      have hPn0 : ¬ Pn = 0 := by omega
      have m5 : 0 ≤ (r * P1 + (J - r) * P0) / Pn := Int.ediv_nonneg (by omega) (by omega)
      refine wp_region_later_tail 20 (by kernel_rfl) (by kernel_rfl) ?_; simp only [List.take_succ_cons, List.take_zero, List.drop_succ_cons, List.drop_zero]; repeat (go_big_quiet_step ((first | (go_at_call 54; exact C1.out _) | (go_at_call 54; exact C0.out _) | (go_at_call 54; exact Cn.out _))))
      refine wpQuiet_nil ?_; rintro _ ⟨⟨W1, HW1⟩, rfl⟩; (try dsimp only)
      obtain ⟨g, hg⟩ : ∃ g : Int, (r * P1 + (J - r) * P0) / Pn = g := ⟨_, rfl⟩
      rw [hg] at m5
      obtain ⟨P, hP⟩ : ∃ P : Int, (if g < S then g else S) = P := ⟨_, rfl⟩
      have kr3 := kr.ext HW1
      have kt3 := kt.ext HW1
      clear k0 k1 k2 k3 f0 f1 f2 f3 LS LB b0 b1 t0 t1 t2 t3 g2
      have t0 := kt3.cell (i := 0) (v := .int .i64 q) rfl
      have t1 := kt3.cell (i := 1) (v := .int .i64 (q + 1)) rfl
      have t2 := kt3.cell (i := 2) (v := .int .i64 S) rfl
      have t3 := kt3.cell (i := 3) (v := .int .i64 0) rfl
      have g2 := kt3.free 2
      have k0 := kr3.cell (i := 0) (v := .int .i64 0) rfl
      have k1 := kr3.cell (i := 1) (v := .int .i64 0) rfl
      have k2 := kr3.cell (i := 2) (v := .int .i64 0) rfl
      have k3 := kr3.cell (i := 3) (v := .int .i64 0) rfl
      have f0 := kr3.free 0
      have f1 := kr3.free 1
      have f2 := kr3.free 2
      have f3 := kr3.free 3
      have hx3 := hx2.trans HW1
      go_wp2_with fail
      all_goals refine bodyPost_ret (v := .tuple #[.agg #[.int .i64 q, .int .i64 (q + 1), .int .i64 P, .int .i64 0], .int .i64 0]) (by simp [results, Try.results22, go_sem, k0, k1, k2, k3]) rfl ⟨?_, (by repeat (first | with_reducible exact Ext.refl _ | with_reducible assumption | with_reducible refine Ext.drewN ?_ _ | with_reducible refine Ext.drew ?_ | with_reducible refine Ext.alloc' ?_ _ | with_reducible refine Ext.set ?_ (by dsimp only; omega) _))⟩
      all_goals
        obtain ⟨q1, q2, q3⟩ := HP.out
        rw [EL.out, EM.out, HMOST.out, EP.out, if_pos (by omega : 1 < n), q1, q2, q3, hg, hP]
    · go_wp2_with fail
      refine bodyPost_ret (v := .tuple #[.agg #[.int .i64 q, .int .i64 (q + 1), .int .i64 S, .int .i64 0], .int .i64 0]) (by simp [results, Try.results22, go_sem, k0, k1, k2, k3]) rfl ⟨?_, (by repeat (first | with_reducible exact Ext.refl _ | with_reducible assumption | with_reducible refine Ext.drewN ?_ _ | with_reducible refine Ext.drew ?_ | with_reducible refine Ext.alloc' ?_ _ | with_reducible refine Ext.set ?_ (by dsimp only; omega) _))⟩
      rw [EL.out, EM.out, HMOST.out, EP.out, if_neg (by omega : ¬ 1 < n)]
  · have hMOST : q + (if 1 < r then 1 else r) = q := by split <;> omega
    have HMOST := Lib.hid hMOST
    clear hMOST
    go_upto_region 9 with fail
    have kt := Blk.new0 w1 #[.int .i64 q, .int .i64 q, .int .i64 S, .int .i64 0] 29
    have kr := KR.out.alloc (.cells #[.int .i64 q, .int .i64 q, .int .i64 S, .int .i64 0] 29)
    have kb := KB.out.alloc (.cells #[.int .i64 q, .int .i64 q, .int .i64 S, .int .i64 0] 29)
    have hx2 : Ext w (w1.alloc (.cells #[.int .i64 q, .int .i64 q, .int .i64 S, .int .i64 0] 29)) := hxw.alloc' _
    clear b0 b1 b2 b3 hxw KR KB
    generalize (w1.alloc (.cells #[.int .i64 q, .int .i64 q, .int .i64 S, .int .i64 0] 29)) = w2 at *
    generalize hB : w1.heap.size = B at *
    clear hB
    have t0 := kt.cell (i := 0) (v := .int .i64 q) rfl
    have t1 := kt.cell (i := 1) (v := .int .i64 q) rfl
    have t2 := kt.cell (i := 2) (v := .int .i64 S) rfl
    have t3 := kt.cell (i := 3) (v := .int .i64 0) rfl
    have g2 := kt.free 2
    have k0 := kr.cell (i := 0) (v := .int .i64 0) rfl
    have k1 := kr.cell (i := 1) (v := .int .i64 0) rfl
    have k2 := kr.cell (i := 2) (v := .int .i64 0) rfl
    have k3 := kr.cell (i := 3) (v := .int .i64 0) rfl
    have f0 := kr.free 0
    have f1 := kr.free 1
    have f2 := kr.free 2
    have f3 := kr.free 3
    have b0 := kb.cell (i := 0) (v := .int .i64 J) rfl
    have b1 := kb.cell (i := 1) (v := .int .i64 S) rfl
    by_cases c1 : 2 ≤ n
    · have p1 := pairsI_bd2 q (by omega) (by omega)
      have p2 := pairsI_bd2 (q + 1) (by omega) (by omega)
      have p3 := pairsI_pos n (by omega) (by omega)
      go_upto_region 10 with fail
      have LS := later_cell b1
      have LB := later_cell b0
      have e1 : (0 : Int) ≤ q + 1 := by omega
      have e2 : q + 1 ≤ 4097 := by omega
      have e3 : (0 : Int) ≤ n := by omega
      have e4 : n ≤ 4097 := by omega
      obtain ⟨P1, hP1⟩ : ∃ P, pairsI (q + 1) = P := ⟨_, rfl⟩
      obtain ⟨P0, hP0⟩ : ∃ P, pairsI q = P := ⟨_, rfl⟩
      obtain ⟨Pn, hPn⟩ : ∃ P, pairsI n = P := ⟨_, rfl⟩
      have C1 := Lib.hid (fun W : Later w2 => later_same (W := W) (by have := refPairs (q + 1) W.1 e1 e2; rwa [hP1] at this))
      have C0 := Lib.hid (fun W : Later w2 => later_same (W := W) (by have := refPairs q W.1 j3 (by omega); rwa [hP0] at this))
      have Cn := Lib.hid (fun W : Later w2 => later_same (W := W) (by have := refPairs n W.1 e3 e4; rwa [hPn] at this))
      rw [hP0] at p1
      rw [hP1] at p2
      rw [hPn] at p3
      have HP := Lib.hid (And.intro hP0 (And.intro hP1 hPn))
      clear hP0 hP1 hPn
      obtain ⟨p1a, p1b⟩ := p1
      obtain ⟨p2a, p2b⟩ := p2
      have m1 : 0 ≤ r * P1 := Int.mul_nonneg j5 p2a
      have m2 : r * P1 ≤ 256 * 8392704 := Int.mul_le_mul (by omega) p2b p2a (by omega)
      have m3 : 0 ≤ (J - r) * P0 := Int.mul_nonneg (by omega) p1a
      have m4 : (J - r) * P0 ≤ 256 * 8392704 := Int.mul_le_mul (by omega) p1b p1a (by omega)
      have hPn0 : ¬ Pn = 0 := by omega
      have m5 : 0 ≤ (r * P1 + (J - r) * P0) / Pn := Int.ediv_nonneg (by omega) (by omega)
      refine wp_region_later_tail 20 (by kernel_rfl) (by kernel_rfl) ?_; simp only [List.take_succ_cons, List.take_zero, List.drop_succ_cons, List.drop_zero]; repeat (go_big_quiet_step ((first | (go_at_call 54; exact C1.out _) | (go_at_call 54; exact C0.out _) | (go_at_call 54; exact Cn.out _))))
      refine wpQuiet_nil ?_; rintro _ ⟨⟨W1, HW1⟩, rfl⟩; (try dsimp only)
      obtain ⟨g, hg⟩ : ∃ g : Int, (r * P1 + (J - r) * P0) / Pn = g := ⟨_, rfl⟩
      rw [hg] at m5
      obtain ⟨P, hP⟩ : ∃ P : Int, (if g < S then g else S) = P := ⟨_, rfl⟩
      have kr3 := kr.ext HW1
      have kt3 := kt.ext HW1
      clear k0 k1 k2 k3 f0 f1 f2 f3 LS LB b0 b1 t0 t1 t2 t3 g2
      have t0 := kt3.cell (i := 0) (v := .int .i64 q) rfl
      have t1 := kt3.cell (i := 1) (v := .int .i64 q) rfl
      have t2 := kt3.cell (i := 2) (v := .int .i64 S) rfl
      have t3 := kt3.cell (i := 3) (v := .int .i64 0) rfl
      have g2 := kt3.free 2
      have k0 := kr3.cell (i := 0) (v := .int .i64 0) rfl
      have k1 := kr3.cell (i := 1) (v := .int .i64 0) rfl
      have k2 := kr3.cell (i := 2) (v := .int .i64 0) rfl
      have k3 := kr3.cell (i := 3) (v := .int .i64 0) rfl
      have f0 := kr3.free 0
      have f1 := kr3.free 1
      have f2 := kr3.free 2
      have f3 := kr3.free 3
      have hx3 := hx2.trans HW1
      go_wp2_with fail
      all_goals refine bodyPost_ret (v := .tuple #[.agg #[.int .i64 q, .int .i64 q, .int .i64 P, .int .i64 0], .int .i64 0]) (by simp [results, Try.results22, go_sem, k0, k1, k2, k3]) rfl ⟨?_, (by repeat (first | with_reducible exact Ext.refl _ | with_reducible assumption | with_reducible refine Ext.drewN ?_ _ | with_reducible refine Ext.drew ?_ | with_reducible refine Ext.alloc' ?_ _ | with_reducible refine Ext.set ?_ (by dsimp only; omega) _))⟩
      all_goals
        obtain ⟨q1, q2, q3⟩ := HP.out
        rw [EL.out, EM.out, HMOST.out, EP.out, if_pos (by omega : 1 < n), q1, q2, q3, hg, hP]
    · go_wp2_with fail
      refine bodyPost_ret (v := .tuple #[.agg #[.int .i64 q, .int .i64 q, .int .i64 S, .int .i64 0], .int .i64 0]) (by simp [results, Try.results22, go_sem, k0, k1, k2, k3]) rfl ⟨?_, (by repeat (first | with_reducible exact Ext.refl _ | with_reducible assumption | with_reducible refine Ext.drewN ?_ _ | with_reducible refine Ext.drew ?_ | with_reducible refine Ext.alloc' ?_ _ | with_reducible refine Ext.set ?_ (by dsimp only; omega) _))⟩
      rw [EL.out, EM.out, HMOST.out, EP.out, if_neg (by omega : ¬ 1 < n)]
end Go.Proofs.Ytmkleegfbapakaa
