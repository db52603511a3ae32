import Derived.Test.YtnpeakahiedeoaaGreatDoorQSane
namespace Go.Proofs.YtnpeakahiedeoaaGreatDoor
open Go.RowKit Go BigFrame
set_option maxRecDepth 100000
set_option linter.unusedSimpArgs false
set_option linter.unusedVariables false

/-! law10.same, RatioSpec. -/
set_option maxHeartbeats 2000000 in
theorem law_sameAdd {x y : RatA} {w : World} (hB : BothR 33 34 #[x.val, y.val] w) : Calls Tryz.prog 32 #[.func (.func 33) #[] #[], .func (.func 34) #[] #[], x.val, y.val] w fun e w' => e = .returned (.bool true) ∧ Ext w w' := by
  obtain ⟨nx, ax, cx, lx, mx, bx, dx, kx⟩ := x
  obtain ⟨ny, ay, cy, ly, my, by_, dy, ky⟩ := y
  obtain ⟨z, y', E, hB⟩ := hB
  dsimp only [RatA.val] at hB ⊢
  have HB := Lib.hid hB
  clear hB
  obtain ⟨x1, hw, hx, Kx, Ky⟩ := boxQ2 w #[.bool nx, .slice ax lx.length cx, .bool mx, .slice bx kx.length dx] 26 #[.bool ny, .slice ay ly.length cy, .bool my, .slice by_ ky.length dy] 26
  replace hw := Lib.hid hw
  go_enter Tryz.func32, Tryz.ntmps32
  go_upto_region 1 with fail
  try simp only [Nat.add_assoc, Nat.reduceAdd, Nat.add_zero]
  rw [hw.out]
  clear hw
  have hs0 := hx.size
  have hb1 := (HB.out _ hx).1
  obtain ⟨cx0, cx1, cx2, cx3⟩ := bk4 Kx
  obtain ⟨cy0, cy1, cy2, cy3⟩ := bk4 Ky
  go_wp2_with fail
  with_reducible refine (hb1).mono ?_
  clear cx0 cx1 cx2 cx3 cy0 cy1 cy2 cy3
  rintro e x2 ⟨np, ap, qp, cp, mp, bp, kp, dp, rfl, hv, hu, hy⟩
  replace hx := hx.trans hy
  replace Kx := kE Kx hy
  replace Ky := kE Ky hy
  clear hy
  have Np := Lib.hid hv
  have Dp := Lib.hid hu
  clear hv hu hb1
  go_upto_region 2 with fail
  have hl := Ext.alloc x2 (.cells #[.bool np, .slice ap qp cp, .bool mp, .slice bp kp dp] 26)
  have lxp : w.heap.size < x2.heap.size := Kx.out.lt
  have lyp : w.heap.size + 1 < x2.heap.size := Ky.out.lt
  have hpp : w.heap.size ≤ x2.heap.size := hx.size
  replace hx := hx.trans hl
  replace Kx := kE Kx hl
  replace Ky := kE Ky hl
  replace Np := Lib.hid (Np.out.ext hl)
  replace Dp := Lib.hid (Dp.out.ext hl)
  have Kp := Lib.hid (Blk.new0 x2 #[.bool np, .slice ap qp cp, .bool mp, .slice bp kp dp] 26)
  clear hl
  generalize x2.alloc (.cells #[.bool np, .slice ap qp cp, .bool mp, .slice bp kp dp] 26) = x3 at *
  generalize x2.heap.size = pp at *
  have hb1 := (HB.out _ hx).2
  obtain ⟨cx0, cx1, cx2, cx3⟩ := bk4 Kx
  obtain ⟨cy0, cy1, cy2, cy3⟩ := bk4 Ky
  go_wp2_with fail
  with_reducible refine (hb1).mono ?_
  clear cx0 cx1 cx2 cx3 cy0 cy1 cy2 cy3
  rintro e x4 ⟨nq, aq, qq, cq, mq, bq, kq, dq, rfl, hv, hu, hy⟩
  replace hx := hx.trans hy
  replace Kx := kE Kx hy
  replace Ky := kE Ky hy
  replace Kp := kE Kp hy
  replace Np := Lib.hid (Np.out.ext hy)
  replace Dp := Lib.hid (Dp.out.ext hy)
  clear hy
  have Nq := Lib.hid hv
  have Dq := Lib.hid hu
  clear hv hu hb1
  go_upto_region 3 with fail
  have hl := Ext.alloc x4 (.cells #[.bool nq, .slice aq qq cq, .bool mq, .slice bq kq dq] 26)
  have lxq : w.heap.size < x4.heap.size := Kx.out.lt
  have lyq : w.heap.size + 1 < x4.heap.size := Ky.out.lt
  have lpq : pp < x4.heap.size := Kp.out.lt
  have hpq : w.heap.size ≤ x4.heap.size := hx.size
  replace hx := hx.trans hl
  replace Kx := kE Kx hl
  replace Ky := kE Ky hl
  replace Kp := kE Kp hl
  replace Np := Lib.hid (Np.out.ext hl)
  replace Dp := Lib.hid (Dp.out.ext hl)
  replace Nq := Lib.hid (Nq.out.ext hl)
  replace Dq := Lib.hid (Dq.out.ext hl)
  have Kq := Lib.hid (Blk.new0 x4 #[.bool nq, .slice aq qq cq, .bool mq, .slice bq kq dq] 26)
  clear hl
  generalize x4.alloc (.cells #[.bool nq, .slice aq qq cq, .bool mq, .slice bq kq dq] 26) = x5 at *
  generalize x4.heap.size = pq at *
  obtain ⟨cp0, cp1, cp2, cp3⟩ := bk4 Kp
  obtain ⟨cq0, cq1, cq2, cq3⟩ := bk4 Kq
  go_wp2_with fail
  with_reducible refine (same_val Np.out Dp.out Nq.out Dq.out).mono ?_
  clear cp0 cp1 cp2 cp3 cq0 cq1 cq2 cq3
  rintro e x6 ⟨rfl, hy⟩
  replace hx := hx.trans hy
  replace Kx := kE Kx hy
  replace Ky := kE Ky hy
  replace Kp := kE Kp hy
  replace Kq := kE Kq hy
  replace Np := Lib.hid (Np.out.ext hy)
  replace Dp := Lib.hid (Dp.out.ext hy)
  replace Nq := Lib.hid (Nq.out.ext hy)
  replace Dq := Lib.hid (Dq.out.ext hy)
  clear hy
  rw [decide_eq_true (by exact ⟨rfl, rfl⟩)]
  go_wp2_with fail
  go_ret
  exact ⟨rfl, hx⟩
set_option maxHeartbeats 2000000 in
theorem law_sameSub {x y : RatA} {w : World} (hB : BothR 35 36 #[x.val, y.val] w) : Calls Tryz.prog 32 #[.func (.func 35) #[] #[], .func (.func 36) #[] #[], x.val, y.val] w fun e w' => e = .returned (.bool true) ∧ Ext w w' := by
  obtain ⟨nx, ax, cx, lx, mx, bx, dx, kx⟩ := x
  obtain ⟨ny, ay, cy, ly, my, by_, dy, ky⟩ := y
  obtain ⟨z, y', E, hB⟩ := hB
  dsimp only [RatA.val] at hB ⊢
  have HB := Lib.hid hB
  clear hB
  obtain ⟨x1, hw, hx, Kx, Ky⟩ := boxQ2 w #[.bool nx, .slice ax lx.length cx, .bool mx, .slice bx kx.length dx] 26 #[.bool ny, .slice ay ly.length cy, .bool my, .slice by_ ky.length dy] 26
  replace hw := Lib.hid hw
  go_enter Tryz.func32, Tryz.ntmps32
  go_upto_region 1 with fail
  try simp only [Nat.add_assoc, Nat.reduceAdd, Nat.add_zero]
  rw [hw.out]
  clear hw
  have hs0 := hx.size
  have hb1 := (HB.out _ hx).1
  obtain ⟨cx0, cx1, cx2, cx3⟩ := bk4 Kx
  obtain ⟨cy0, cy1, cy2, cy3⟩ := bk4 Ky
  go_wp2_with fail
  with_reducible refine (hb1).mono ?_
  clear cx0 cx1 cx2 cx3 cy0 cy1 cy2 cy3
  rintro e x2 ⟨np, ap, qp, cp, mp, bp, kp, dp, rfl, hv, hu, hy⟩
  replace hx := hx.trans hy
  replace Kx := kE Kx hy
  replace Ky := kE Ky hy
  clear hy
  have Np := Lib.hid hv
  have Dp := Lib.hid hu
  clear hv hu hb1
  go_upto_region 2 with fail
  have hl := Ext.alloc x2 (.cells #[.bool np, .slice ap qp cp, .bool mp, .slice bp kp dp] 26)
  have lxp : w.heap.size < x2.heap.size := Kx.out.lt
  have lyp : w.heap.size + 1 < x2.heap.size := Ky.out.lt
  have hpp : w.heap.size ≤ x2.heap.size := hx.size
  replace hx := hx.trans hl
  replace Kx := kE Kx hl
  replace Ky := kE Ky hl
  replace Np := Lib.hid (Np.out.ext hl)
  replace Dp := Lib.hid (Dp.out.ext hl)
  have Kp := Lib.hid (Blk.new0 x2 #[.bool np, .slice ap qp cp, .bool mp, .slice bp kp dp] 26)
  clear hl
  generalize x2.alloc (.cells #[.bool np, .slice ap qp cp, .bool mp, .slice bp kp dp] 26) = x3 at *
  generalize x2.heap.size = pp at *
  have hb1 := (HB.out _ hx).2
  obtain ⟨cx0, cx1, cx2, cx3⟩ := bk4 Kx
  obtain ⟨cy0, cy1, cy2, cy3⟩ := bk4 Ky
  go_wp2_with fail
  with_reducible refine (hb1).mono ?_
  clear cx0 cx1 cx2 cx3 cy0 cy1 cy2 cy3
  rintro e x4 ⟨nq, aq, qq, cq, mq, bq, kq, dq, rfl, hv, hu, hy⟩
  replace hx := hx.trans hy
  replace Kx := kE Kx hy
  replace Ky := kE Ky hy
  replace Kp := kE Kp hy
  replace Np := Lib.hid (Np.out.ext hy)
  replace Dp := Lib.hid (Dp.out.ext hy)
  clear hy
  have Nq := Lib.hid hv
  have Dq := Lib.hid hu
  clear hv hu hb1
  go_upto_region 3 with fail
  have hl := Ext.alloc x4 (.cells #[.bool nq, .slice aq qq cq, .bool mq, .slice bq kq dq] 26)
  have lxq : w.heap.size < x4.heap.size := Kx.out.lt
  have lyq : w.heap.size + 1 < x4.heap.size := Ky.out.lt
  have lpq : pp < x4.heap.size := Kp.out.lt
  have hpq : w.heap.size ≤ x4.heap.size := hx.size
  replace hx := hx.trans hl
  replace Kx := kE Kx hl
  replace Ky := kE Ky hl
  replace Kp := kE Kp hl
  replace Np := Lib.hid (Np.out.ext hl)
  replace Dp := Lib.hid (Dp.out.ext hl)
  replace Nq := Lib.hid (Nq.out.ext hl)
  replace Dq := Lib.hid (Dq.out.ext hl)
  have Kq := Lib.hid (Blk.new0 x4 #[.bool nq, .slice aq qq cq, .bool mq, .slice bq kq dq] 26)
  clear hl
  generalize x4.alloc (.cells #[.bool nq, .slice aq qq cq, .bool mq, .slice bq kq dq] 26) = x5 at *
  generalize x4.heap.size = pq at *
  obtain ⟨cp0, cp1, cp2, cp3⟩ := bk4 Kp
  obtain ⟨cq0, cq1, cq2, cq3⟩ := bk4 Kq
  go_wp2_with fail
  with_reducible refine (same_val Np.out Dp.out Nq.out Dq.out).mono ?_
  clear cp0 cp1 cp2 cp3 cq0 cq1 cq2 cq3
  rintro e x6 ⟨rfl, hy⟩
  replace hx := hx.trans hy
  replace Kx := kE Kx hy
  replace Ky := kE Ky hy
  replace Kp := kE Kp hy
  replace Kq := kE Kq hy
  replace Np := Lib.hid (Np.out.ext hy)
  replace Dp := Lib.hid (Dp.out.ext hy)
  replace Nq := Lib.hid (Nq.out.ext hy)
  replace Dq := Lib.hid (Dq.out.ext hy)
  clear hy
  rw [decide_eq_true (by exact ⟨rfl, rfl⟩)]
  go_wp2_with fail
  go_ret
  exact ⟨rfl, hx⟩
set_option maxHeartbeats 2000000 in
theorem law_sameMul {x y : RatA} {w : World} (hB : BothR 37 38 #[x.val, y.val] w) : Calls Tryz.prog 32 #[.func (.func 37) #[] #[], .func (.func 38) #[] #[], x.val, y.val] w fun e w' => e = .returned (.bool true) ∧ Ext w w' := by
  obtain ⟨nx, ax, cx, lx, mx, bx, dx, kx⟩ := x
  obtain ⟨ny, ay, cy, ly, my, by_, dy, ky⟩ := y
  obtain ⟨z, y', E, hB⟩ := hB
  dsimp only [RatA.val] at hB ⊢
  have HB := Lib.hid hB
  clear hB
  obtain ⟨x1, hw, hx, Kx, Ky⟩ := boxQ2 w #[.bool nx, .slice ax lx.length cx, .bool mx, .slice bx kx.length dx] 26 #[.bool ny, .slice ay ly.length cy, .bool my, .slice by_ ky.length dy] 26
  replace hw := Lib.hid hw
  go_enter Tryz.func32, Tryz.ntmps32
  go_upto_region 1 with fail
  try simp only [Nat.add_assoc, Nat.reduceAdd, Nat.add_zero]
  rw [hw.out]
  clear hw
  have hs0 := hx.size
  have hb1 := (HB.out _ hx).1
  obtain ⟨cx0, cx1, cx2, cx3⟩ := bk4 Kx
  obtain ⟨cy0, cy1, cy2, cy3⟩ := bk4 Ky
  go_wp2_with fail
  with_reducible refine (hb1).mono ?_
  clear cx0 cx1 cx2 cx3 cy0 cy1 cy2 cy3
  rintro e x2 ⟨np, ap, qp, cp, mp, bp, kp, dp, rfl, hv, hu, hy⟩
  replace hx := hx.trans hy
  replace Kx := kE Kx hy
  replace Ky := kE Ky hy
  clear hy
  have Np := Lib.hid hv
  have Dp := Lib.hid hu
  clear hv hu hb1
  go_upto_region 2 with fail
  have hl := Ext.alloc x2 (.cells #[.bool np, .slice ap qp cp, .bool mp, .slice bp kp dp] 26)
  have lxp : w.heap.size < x2.heap.size := Kx.out.lt
  have lyp : w.heap.size + 1 < x2.heap.size := Ky.out.lt
  have hpp : w.heap.size ≤ x2.heap.size := hx.size
  replace hx := hx.trans hl
  replace Kx := kE Kx hl
  replace Ky := kE Ky hl
  replace Np := Lib.hid (Np.out.ext hl)
  replace Dp := Lib.hid (Dp.out.ext hl)
  have Kp := Lib.hid (Blk.new0 x2 #[.bool np, .slice ap qp cp, .bool mp, .slice bp kp dp] 26)
  clear hl
  generalize x2.alloc (.cells #[.bool np, .slice ap qp cp, .bool mp, .slice bp kp dp] 26) = x3 at *
  generalize x2.heap.size = pp at *
  have hb1 := (HB.out _ hx).2
  obtain ⟨cx0, cx1, cx2, cx3⟩ := bk4 Kx
  obtain ⟨cy0, cy1, cy2, cy3⟩ := bk4 Ky
  go_wp2_with fail
  with_reducible refine (hb1).mono ?_
  clear cx0 cx1 cx2 cx3 cy0 cy1 cy2 cy3
  rintro e x4 ⟨nq, aq, qq, cq, mq, bq, kq, dq, rfl, hv, hu, hy⟩
  replace hx := hx.trans hy
  replace Kx := kE Kx hy
  replace Ky := kE Ky hy
  replace Kp := kE Kp hy
  replace Np := Lib.hid (Np.out.ext hy)
  replace Dp := Lib.hid (Dp.out.ext hy)
  clear hy
  have Nq := Lib.hid hv
  have Dq := Lib.hid hu
  clear hv hu hb1
  go_upto_region 3 with fail
  have hl := Ext.alloc x4 (.cells #[.bool nq, .slice aq qq cq, .bool mq, .slice bq kq dq] 26)
  have lxq : w.heap.size < x4.heap.size := Kx.out.lt
  have lyq : w.heap.size + 1 < x4.heap.size := Ky.out.lt
  have lpq : pp < x4.heap.size := Kp.out.lt
  have hpq : w.heap.size ≤ x4.heap.size := hx.size
  replace hx := hx.trans hl
  replace Kx := kE Kx hl
  replace Ky := kE Ky hl
  replace Kp := kE Kp hl
  replace Np := Lib.hid (Np.out.ext hl)
  replace Dp := Lib.hid (Dp.out.ext hl)
  replace Nq := Lib.hid (Nq.out.ext hl)
  replace Dq := Lib.hid (Dq.out.ext hl)
  have Kq := Lib.hid (Blk.new0 x4 #[.bool nq, .slice aq qq cq, .bool mq, .slice bq kq dq] 26)
  clear hl
  generalize x4.alloc (.cells #[.bool nq, .slice aq qq cq, .bool mq, .slice bq kq dq] 26) = x5 at *
  generalize x4.heap.size = pq at *
  obtain ⟨cp0, cp1, cp2, cp3⟩ := bk4 Kp
  obtain ⟨cq0, cq1, cq2, cq3⟩ := bk4 Kq
  go_wp2_with fail
  with_reducible refine (same_val Np.out Dp.out Nq.out Dq.out).mono ?_
  clear cp0 cp1 cp2 cp3 cq0 cq1 cq2 cq3
  rintro e x6 ⟨rfl, hy⟩
  replace hx := hx.trans hy
  replace Kx := kE Kx hy
  replace Ky := kE Ky hy
  replace Kp := kE Kp hy
  replace Kq := kE Kq hy
  replace Np := Lib.hid (Np.out.ext hy)
  replace Dp := Lib.hid (Dp.out.ext hy)
  replace Nq := Lib.hid (Nq.out.ext hy)
  replace Dq := Lib.hid (Dq.out.ext hy)
  clear hy
  rw [decide_eq_true (by exact ⟨rfl, rfl⟩)]
  go_wp2_with fail
  go_ret
  exact ⟨rfl, hx⟩
set_option maxHeartbeats 2000000 in
theorem law_sameQuo {x y : RatA} {w : World} (hB : BothR 39 40 #[x.val, y.val] w) : Calls Tryz.prog 32 #[.func (.func 39) #[] #[], .func (.func 40) #[] #[], x.val, y.val] w fun e w' => e = .returned (.bool true) ∧ Ext w w' := by
  obtain ⟨nx, ax, cx, lx, mx, bx, dx, kx⟩ := x
  obtain ⟨ny, ay, cy, ly, my, by_, dy, ky⟩ := y
  obtain ⟨z, y', E, hB⟩ := hB
  dsimp only [RatA.val] at hB ⊢
  have HB := Lib.hid hB
  clear hB
  obtain ⟨x1, hw, hx, Kx, Ky⟩ := boxQ2 w #[.bool nx, .slice ax lx.length cx, .bool mx, .slice bx kx.length dx] 26 #[.bool ny, .slice ay ly.length cy, .bool my, .slice by_ ky.length dy] 26
  replace hw := Lib.hid hw
  go_enter Tryz.func32, Tryz.ntmps32
  go_upto_region 1 with fail
  try simp only [Nat.add_assoc, Nat.reduceAdd, Nat.add_zero]
  rw [hw.out]
  clear hw
  have hs0 := hx.size
  have hb1 := (HB.out _ hx).1
  obtain ⟨cx0, cx1, cx2, cx3⟩ := bk4 Kx
  obtain ⟨cy0, cy1, cy2, cy3⟩ := bk4 Ky
  go_wp2_with fail
  with_reducible refine (hb1).mono ?_
  clear cx0 cx1 cx2 cx3 cy0 cy1 cy2 cy3
  rintro e x2 ⟨np, ap, qp, cp, mp, bp, kp, dp, rfl, hv, hu, hy⟩
  replace hx := hx.trans hy
  replace Kx := kE Kx hy
  replace Ky := kE Ky hy
  clear hy
  have Np := Lib.hid hv
  have Dp := Lib.hid hu
  clear hv hu hb1
  go_upto_region 2 with fail
  have hl := Ext.alloc x2 (.cells #[.bool np, .slice ap qp cp, .bool mp, .slice bp kp dp] 26)
  have lxp : w.heap.size < x2.heap.size := Kx.out.lt
  have lyp : w.heap.size + 1 < x2.heap.size := Ky.out.lt
  have hpp : w.heap.size ≤ x2.heap.size := hx.size
  replace hx := hx.trans hl
  replace Kx := kE Kx hl
  replace Ky := kE Ky hl
  replace Np := Lib.hid (Np.out.ext hl)
  replace Dp := Lib.hid (Dp.out.ext hl)
  have Kp := Lib.hid (Blk.new0 x2 #[.bool np, .slice ap qp cp, .bool mp, .slice bp kp dp] 26)
  clear hl
  generalize x2.alloc (.cells #[.bool np, .slice ap qp cp, .bool mp, .slice bp kp dp] 26) = x3 at *
  generalize x2.heap.size = pp at *
  have hb1 := (HB.out _ hx).2
  obtain ⟨cx0, cx1, cx2, cx3⟩ := bk4 Kx
  obtain ⟨cy0, cy1, cy2, cy3⟩ := bk4 Ky
  go_wp2_with fail
  with_reducible refine (hb1).mono ?_
  clear cx0 cx1 cx2 cx3 cy0 cy1 cy2 cy3
  rintro e x4 ⟨nq, aq, qq, cq, mq, bq, kq, dq, rfl, hv, hu, hy⟩
  replace hx := hx.trans hy
  replace Kx := kE Kx hy
  replace Ky := kE Ky hy
  replace Kp := kE Kp hy
  replace Np := Lib.hid (Np.out.ext hy)
  replace Dp := Lib.hid (Dp.out.ext hy)
  clear hy
  have Nq := Lib.hid hv
  have Dq := Lib.hid hu
  clear hv hu hb1
  go_upto_region 3 with fail
  have hl := Ext.alloc x4 (.cells #[.bool nq, .slice aq qq cq, .bool mq, .slice bq kq dq] 26)
  have lxq : w.heap.size < x4.heap.size := Kx.out.lt
  have lyq : w.heap.size + 1 < x4.heap.size := Ky.out.lt
  have lpq : pp < x4.heap.size := Kp.out.lt
  have hpq : w.heap.size ≤ x4.heap.size := hx.size
  replace hx := hx.trans hl
  replace Kx := kE Kx hl
  replace Ky := kE Ky hl
  replace Kp := kE Kp hl
  replace Np := Lib.hid (Np.out.ext hl)
  replace Dp := Lib.hid (Dp.out.ext hl)
  replace Nq := Lib.hid (Nq.out.ext hl)
  replace Dq := Lib.hid (Dq.out.ext hl)
  have Kq := Lib.hid (Blk.new0 x4 #[.bool nq, .slice aq qq cq, .bool mq, .slice bq kq dq] 26)
  clear hl
  generalize x4.alloc (.cells #[.bool nq, .slice aq qq cq, .bool mq, .slice bq kq dq] 26) = x5 at *
  generalize x4.heap.size = pq at *
  obtain ⟨cp0, cp1, cp2, cp3⟩ := bk4 Kp
  obtain ⟨cq0, cq1, cq2, cq3⟩ := bk4 Kq
  go_wp2_with fail
  with_reducible refine (same_val Np.out Dp.out Nq.out Dq.out).mono ?_
  clear cp0 cp1 cp2 cp3 cq0 cq1 cq2 cq3
  rintro e x6 ⟨rfl, hy⟩
  replace hx := hx.trans hy
  replace Kx := kE Kx hy
  replace Ky := kE Ky hy
  replace Kp := kE Kp hy
  replace Kq := kE Kq hy
  replace Np := Lib.hid (Np.out.ext hy)
  replace Dp := Lib.hid (Dp.out.ext hy)
  replace Nq := Lib.hid (Nq.out.ext hy)
  replace Dq := Lib.hid (Dq.out.ext hy)
  clear hy
  rw [decide_eq_true (by exact ⟨rfl, rfl⟩)]
  go_wp2_with fail
  go_ret
  exact ⟨rfl, hx⟩
set_option maxHeartbeats 4000000 in
theorem law_Spec_f0 (x y : RatA) (w : World) (hx1 : RatI w x) (hy1 : RatI w y) (f0 : fewR x = false) : Calls Tryz.prog 7 #[x.val, y.val] w fun e w' => e = .returned (.bool true) ∧ Ext w w' := by
  obtain ⟨nx, ax, cx, lx, mx, bx, dx, kx⟩ := x
  obtain ⟨ny, ay, cy, ly, my, by_, dy, ky⟩ := y
  have f0 : (fewQ lx.length 6 && fewQ kx.length 6) = false := f0
  dsimp only [RatA.val] at *
  have HF0 := Lib.hid (fun W => show Calls Tryz.prog 12 #[.agg #[.bool nx, .slice ax lx.length cx, .bool mx, .slice bx kx.length dx], .int .i64 6] W _ from few_val nx mx ax bx lx.length cx kx.length dx 6 W (Nat.le_trans hx1.i.le hx1.i.mx) (Nat.le_trans hx1.j.le hx1.j.mx))
  rw [f0] at HF0
  clear hx1 hy1 f0
  obtain ⟨x1, hw, hx, Kx, Ky⟩ := boxQ2 w #[.bool nx, .slice ax lx.length cx, .bool mx, .slice bx kx.length dx] 26 #[.bool ny, .slice ay ly.length cy, .bool my, .slice by_ ky.length dy] 26
  replace hw := Lib.hid hw
  go_enter Tryz.func7, Tryz.ntmps7
  go_upto_region 1 with fail
  try simp only [Nat.add_assoc, Nat.reduceAdd, Nat.add_zero]
  rw [hw.out]
  clear hw
  have hs0 := hx.size
  obtain ⟨cx0, cx1, cx2, cx3⟩ := bk4 Kx
  obtain ⟨cy0, cy1, cy2, cy3⟩ := bk4 Ky
  go_wp2_with fail
  with_reducible refine (law10_sane _).mono ?_
  clear cx0 cx1 cx2 cx3 cy0 cy1 cy2 cy3
  rintro e x2 ⟨rfl, hy⟩
  replace hx := hx.trans hy
  replace Kx := kE Kx hy
  replace Ky := kE Ky hy
  clear hy
  obtain ⟨cx0, cx1, cx2, cx3⟩ := bk4 Kx
  obtain ⟨cy0, cy1, cy2, cy3⟩ := bk4 Ky
  go_wp2_with fail
  with_reducible refine (HF0.out _).mono ?_
  clear cx0 cx1 cx2 cx3 cy0 cy1 cy2 cy3
  rintro e x3 ⟨rfl, hy⟩
  replace hx := hx.trans hy
  replace Kx := kE Kx hy
  replace Ky := kE Ky hy
  clear hy
  go_wp2_with fail
  go_ret
  exact ⟨rfl, hx⟩
set_option maxHeartbeats 4000000 in
theorem law_Spec_f1 (x y : RatA) (w : World) (hx1 : RatI w x) (hy1 : RatI w y) (f0 : fewR x = true) (f1 : fewR y = false) : Calls Tryz.prog 7 #[x.val, y.val] w fun e w' => e = .returned (.bool true) ∧ Ext w w' := by
  obtain ⟨nx, ax, cx, lx, mx, bx, dx, kx⟩ := x
  obtain ⟨ny, ay, cy, ly, my, by_, dy, ky⟩ := y
  have f0 : (fewQ lx.length 6 && fewQ kx.length 6) = true := f0
  have f1 : (fewQ ly.length 6 && fewQ ky.length 6) = false := f1
  dsimp only [RatA.val] at *
  have HF0 := Lib.hid (fun W => show Calls Tryz.prog 12 #[.agg #[.bool nx, .slice ax lx.length cx, .bool mx, .slice bx kx.length dx], .int .i64 6] W _ from few_val nx mx ax bx lx.length cx kx.length dx 6 W (Nat.le_trans hx1.i.le hx1.i.mx) (Nat.le_trans hx1.j.le hx1.j.mx))
  rw [f0] at HF0
  have HF1 := Lib.hid (fun W => show Calls Tryz.prog 12 #[.agg #[.bool ny, .slice ay ly.length cy, .bool my, .slice by_ ky.length dy], .int .i64 6] W _ from few_val ny my ay by_ ly.length cy ky.length dy 6 W (Nat.le_trans hy1.i.le hy1.i.mx) (Nat.le_trans hy1.j.le hy1.j.mx))
  rw [f1] at HF1
  clear hx1 hy1 f0 f1
  obtain ⟨x1, hw, hx, Kx, Ky⟩ := boxQ2 w #[.bool nx, .slice ax lx.length cx, .bool mx, .slice bx kx.length dx] 26 #[.bool ny, .slice ay ly.length cy, .bool my, .slice by_ ky.length dy] 26
  replace hw := Lib.hid hw
  go_enter Tryz.func7, Tryz.ntmps7
  go_upto_region 1 with fail
  try simp only [Nat.add_assoc, Nat.reduceAdd, Nat.add_zero]
  rw [hw.out]
  clear hw
  have hs0 := hx.size
  obtain ⟨cx0, cx1, cx2, cx3⟩ := bk4 Kx
  obtain ⟨cy0, cy1, cy2, cy3⟩ := bk4 Ky
  go_wp2_with fail
  with_reducible refine (law10_sane _).mono ?_
  clear cx0 cx1 cx2 cx3 cy0 cy1 cy2 cy3
  rintro e x2 ⟨rfl, hy⟩
  replace hx := hx.trans hy
  replace Kx := kE Kx hy
  replace Ky := kE Ky hy
  clear hy
  obtain ⟨cx0, cx1, cx2, cx3⟩ := bk4 Kx
  obtain ⟨cy0, cy1, cy2, cy3⟩ := bk4 Ky
  go_wp2_with fail
  with_reducible refine (HF0.out _).mono ?_
  clear cx0 cx1 cx2 cx3 cy0 cy1 cy2 cy3
  rintro e x3 ⟨rfl, hy⟩
  replace hx := hx.trans hy
  replace Kx := kE Kx hy
  replace Ky := kE Ky hy
  clear hy
  obtain ⟨cx0, cx1, cx2, cx3⟩ := bk4 Kx
  obtain ⟨cy0, cy1, cy2, cy3⟩ := bk4 Ky
  go_wp2_with fail
  with_reducible refine (HF1.out _).mono ?_
  clear cx0 cx1 cx2 cx3 cy0 cy1 cy2 cy3
  rintro e x4 ⟨rfl, hy⟩
  replace hx := hx.trans hy
  replace Kx := kE Kx hy
  replace Ky := kE Ky hy
  clear hy
  go_wp2_with fail
  go_ret
  exact ⟨rfl, hx⟩
set_option maxHeartbeats 4000000 in
theorem law_Spec_ok (x y : RatA) (w : World) (hx1 : RatI w x) (hy1 : RatI w y) (f0 : fewR x = true) (f1 : fewR y = true) : Calls Tryz.prog 7 #[x.val, y.val] w fun e w' => e = .returned (.bool true) ∧ Ext w w' := by
  obtain ⟨cc, E0, h0⟩ := both_Cmp hx1 hy1 f0 f1
  obtain ⟨zf, E1, h1⟩ := both_Floor hx1 f0
  have HC := Lib.hid h0
  have HF := Lib.hid h1
  clear h0 h1
  have HS0 := Lib.hid (fun W (hy : Ext w W) => law_sameAdd (both_Add (hx1.ext hy) (hy1.ext hy) f0 f1))
  have HS1 := Lib.hid (fun W (hy : Ext w W) => law_sameSub (both_Sub (hx1.ext hy) (hy1.ext hy) f0 f1))
  have HS2 := Lib.hid (fun W (hy : Ext w W) => law_sameMul (both_Mul (hx1.ext hy) (hy1.ext hy) f0 f1))
  have HS3 := Lib.hid (fun W (hy : Ext w W) => law_sameQuo (both_Quo (hx1.ext hy) (hy1.ext hy) f0 f1))
  obtain ⟨nx, ax, cx, lx, mx, bx, dx, kx⟩ := x
  obtain ⟨ny, ay, cy, ly, my, by_, dy, ky⟩ := y
  have f0 : (fewQ lx.length 6 && fewQ kx.length 6) = true := f0
  have f1 : (fewQ ly.length 6 && fewQ ky.length 6) = true := f1
  dsimp only [RatA.val] at *
  have HF0 := Lib.hid (fun W => show Calls Tryz.prog 12 #[.agg #[.bool nx, .slice ax lx.length cx, .bool mx, .slice bx kx.length dx], .int .i64 6] W _ from few_val nx mx ax bx lx.length cx kx.length dx 6 W (Nat.le_trans hx1.i.le hx1.i.mx) (Nat.le_trans hx1.j.le hx1.j.mx))
  rw [f0] at HF0
  have HF1 := Lib.hid (fun W => show Calls Tryz.prog 12 #[.agg #[.bool ny, .slice ay ly.length cy, .bool my, .slice by_ ky.length dy], .int .i64 6] W _ from few_val ny my ay by_ ly.length cy ky.length dy 6 W (Nat.le_trans hy1.i.le hy1.i.mx) (Nat.le_trans hy1.j.le hy1.j.mx))
  rw [f1] at HF1
  clear hx1 hy1 f0 f1
  obtain ⟨x1, hw, hx, Kx, Ky⟩ := boxQ2 w #[.bool nx, .slice ax lx.length cx, .bool mx, .slice bx kx.length dx] 26 #[.bool ny, .slice ay ly.length cy, .bool my, .slice by_ ky.length dy] 26
  replace hw := Lib.hid hw
  go_enter Tryz.func7, Tryz.ntmps7
  go_upto_region 1 with fail
  try simp only [Nat.add_assoc, Nat.reduceAdd, Nat.add_zero]
  rw [hw.out]
  clear hw
  have hs0 := hx.size
  obtain ⟨cx0, cx1, cx2, cx3⟩ := bk4 Kx
  obtain ⟨cy0, cy1, cy2, cy3⟩ := bk4 Ky
  go_wp2_with fail
  with_reducible refine (law10_sane _).mono ?_
  clear cx0 cx1 cx2 cx3 cy0 cy1 cy2 cy3
  rintro e x2 ⟨rfl, hy⟩
  replace hx := hx.trans hy
  replace Kx := kE Kx hy
  replace Ky := kE Ky hy
  clear hy
  obtain ⟨cx0, cx1, cx2, cx3⟩ := bk4 Kx
  obtain ⟨cy0, cy1, cy2, cy3⟩ := bk4 Ky
  go_wp2_with fail
  with_reducible refine (HF0.out _).mono ?_
  clear cx0 cx1 cx2 cx3 cy0 cy1 cy2 cy3
  rintro e x3 ⟨rfl, hy⟩
  replace hx := hx.trans hy
  replace Kx := kE Kx hy
  replace Ky := kE Ky hy
  clear hy
  obtain ⟨cx0, cx1, cx2, cx3⟩ := bk4 Kx
  obtain ⟨cy0, cy1, cy2, cy3⟩ := bk4 Ky
  go_wp2_with fail
  with_reducible refine (HF1.out _).mono ?_
  clear cx0 cx1 cx2 cx3 cy0 cy1 cy2 cy3
  rintro e x4 ⟨rfl, hy⟩
  replace hx := hx.trans hy
  replace Kx := kE Kx hy
  replace Ky := kE Ky hy
  clear hy
  obtain ⟨cx0, cx1, cx2, cx3⟩ := bk4 Kx
  obtain ⟨cy0, cy1, cy2, cy3⟩ := bk4 Ky
  go_wp2_with fail
  with_reducible refine ((HC.out _ hx).1).mono ?_
  clear cx0 cx1 cx2 cx3 cy0 cy1 cy2 cy3
  rintro e x5 ⟨rfl, hy⟩
  replace hx := hx.trans hy
  replace Kx := kE Kx hy
  replace Ky := kE Ky hy
  clear hy
  obtain ⟨cx0, cx1, cx2, cx3⟩ := bk4 Kx
  obtain ⟨cy0, cy1, cy2, cy3⟩ := bk4 Ky
  go_wp2_with fail
  with_reducible refine ((HC.out _ hx).2).mono ?_
  clear cx0 cx1 cx2 cx3 cy0 cy1 cy2 cy3
  rintro e x6 ⟨rfl, hy⟩
  replace hx := hx.trans hy
  replace Kx := kE Kx hy
  replace Ky := kE Ky hy
  clear hy
  obtain ⟨cx0, cx1, cx2, cx3⟩ := bk4 Kx
  go_wp2_with fail
  with_reducible refine ((HF.out _ hx).1).mono ?_
  clear cx0 cx1 cx2 cx3
  rintro e x7 ⟨np, ap, qp, cp, rfl, hv, hy⟩
  replace hx := hx.trans hy
  replace Kx := kE Kx hy
  replace Ky := kE Ky hy
  clear hy
  have Vp := Lib.hid hv
  clear hv
  go_upto_region 8 with fail
  have hl := Ext.alloc x7 (.cells #[.bool np, .slice ap qp cp] 24)
  have lxp : w.heap.size < x7.heap.size := Kx.out.lt
  have lyp : w.heap.size + 1 < x7.heap.size := Ky.out.lt
  have hpp : w.heap.size ≤ x7.heap.size := hx.size
  replace hx := hx.trans hl
  replace Kx := kE Kx hl
  replace Ky := kE Ky hl
  replace Vp := Lib.hid (Vp.out.ext hl)
  have Kp := Lib.hid (Blk.new0 x7 #[.bool np, .slice ap qp cp] 24)
  clear hl
  generalize x7.alloc (.cells #[.bool np, .slice ap qp cp] 24) = x8 at *
  generalize x7.heap.size = pp at *
  obtain ⟨cx0, cx1, cx2, cx3⟩ := bk4 Kx
  go_wp2_with fail
  with_reducible refine ((HF.out _ hx).2).mono ?_
  clear cx0 cx1 cx2 cx3
  rintro e x9 ⟨nq, aq, qq, cq, rfl, hv, hy⟩
  replace hx := hx.trans hy
  replace Kx := kE Kx hy
  replace Ky := kE Ky hy
  replace Kp := kE Kp hy
  replace Vp := Lib.hid (Vp.out.ext hy)
  clear hy
  have Vq := Lib.hid hv
  clear hv
  go_upto_region 9 with fail
  have hl := Ext.alloc x9 (.cells #[.bool nq, .slice aq qq cq] 24)
  have lxq : w.heap.size < x9.heap.size := Kx.out.lt
  have lyq : w.heap.size + 1 < x9.heap.size := Ky.out.lt
  have lpq : pp < x9.heap.size := Kp.out.lt
  have hpq : w.heap.size ≤ x9.heap.size := hx.size
  replace hx := hx.trans hl
  replace Kx := kE Kx hl
  replace Ky := kE Ky hl
  replace Kp := kE Kp hl
  replace Vp := Lib.hid (Vp.out.ext hl)
  replace Vq := Lib.hid (Vq.out.ext hl)
  have Kq := Lib.hid (Blk.new0 x9 #[.bool nq, .slice aq qq cq] 24)
  clear hl
  generalize x9.alloc (.cells #[.bool nq, .slice aq qq cq] 24) = x10 at *
  generalize x9.heap.size = pq at *
  obtain ⟨cp0, cp1⟩ := bk2 Kp
  obtain ⟨cq0, cq1⟩ := bk2 Kq
  go_wp2_with fail
  with_reducible refine (sameBig_val Vp.out Vq.out).mono ?_
  clear cp0 cp1 cq0 cq1
  rintro e x11 ⟨rfl, hy⟩
  replace hx := hx.trans hy
  replace Kx := kE Kx hy
  replace Ky := kE Ky hy
  replace Kp := kE Kp hy
  replace Kq := kE Kq hy
  replace Vp := Lib.hid (Vp.out.ext hy)
  replace Vq := Lib.hid (Vq.out.ext hy)
  clear hy
  rw [decide_eq_true (by rfl)]
  clear Vp Vq
  clear Kp Kq
  obtain ⟨cx0, cx1, cx2, cx3⟩ := bk4 Kx
  obtain ⟨cy0, cy1, cy2, cy3⟩ := bk4 Ky
  go_wp2_with fail
  with_reducible refine (HS0.out _ hx).mono ?_
  clear cx0 cx1 cx2 cx3 cy0 cy1 cy2 cy3
  rintro e x12 ⟨rfl, hy⟩
  replace hx := hx.trans hy
  replace Kx := kE Kx hy
  replace Ky := kE Ky hy
  clear hy
  obtain ⟨cx0, cx1, cx2, cx3⟩ := bk4 Kx
  obtain ⟨cy0, cy1, cy2, cy3⟩ := bk4 Ky
  go_wp2_with fail
  with_reducible refine (HS1.out _ hx).mono ?_
  clear cx0 cx1 cx2 cx3 cy0 cy1 cy2 cy3
  rintro e x13 ⟨rfl, hy⟩
  replace hx := hx.trans hy
  replace Kx := kE Kx hy
  replace Ky := kE Ky hy
  clear hy
  obtain ⟨cx0, cx1, cx2, cx3⟩ := bk4 Kx
  obtain ⟨cy0, cy1, cy2, cy3⟩ := bk4 Ky
  go_wp2_with fail
  with_reducible refine (HS2.out _ hx).mono ?_
  clear cx0 cx1 cx2 cx3 cy0 cy1 cy2 cy3
  rintro e x14 ⟨rfl, hy⟩
  replace hx := hx.trans hy
  replace Kx := kE Kx hy
  replace Ky := kE Ky hy
  clear hy
  obtain ⟨cx0, cx1, cx2, cx3⟩ := bk4 Kx
  obtain ⟨cy0, cy1, cy2, cy3⟩ := bk4 Ky
  go_wp2_with fail
  with_reducible refine (HS3.out _ hx).mono ?_
  clear cx0 cx1 cx2 cx3 cy0 cy1 cy2 cy3
  rintro e x15 ⟨rfl, hy⟩
  replace hx := hx.trans hy
  replace Kx := kE Kx hy
  replace Ky := kE Ky hy
  clear hy
  go_wp2_with fail
  go_ret
  exact ⟨rfl, hx⟩
theorem law_Spec (x y : RatA) (w : World) (hx1 : RatI w x) (hy1 : RatI w y) : Calls Tryz.prog 7 #[x.val, y.val] w fun e w' => e = .returned (.bool true) ∧ Ext w w' := by
  cases f0 : fewR x
  · exact law_Spec_f0 x y w hx1 hy1 f0
  · cases f1 : fewR y
    · exact law_Spec_f1 x y w hx1 hy1 f0 f1
    · exact law_Spec_ok x y w hx1 hy1 f0 f1
end Go.Proofs.YtnpeakahiedeoaaGreatDoor
