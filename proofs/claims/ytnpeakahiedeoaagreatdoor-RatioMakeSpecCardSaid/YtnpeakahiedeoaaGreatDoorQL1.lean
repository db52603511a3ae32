import Derived.Test.YtnpeakahiedeoaaGreatDoorQSane
namespace Go.Proofs.YtnpeakahiedeoaaGreatDoor
open Go.RowKit Go BigFrame
set_option maxRecDepth 100000
set_option linter.unusedSimpArgs false
set_option linter.unusedVariables false

/-! law10.RatioMakeSpec, same. -/
set_option maxHeartbeats 4000000 in
theorem law_MakeSpec_f0 (n d : Int) (hn : -9223372036854775808 ≤ n ∧ n ≤ 9223372036854775807) (hd : -9223372036854775808 ≤ d ∧ d ≤ 9223372036854775807) (n1 n2 : Bool) (a b : Option Addr) (ca cb : Nat) (l m : List Int) (x : RatA) (w : World) (ha : Ints w a ca l) (hb : Ints w b cb m) (hx1 : RatI w x) (f0 : fewQ l.length 6 = false) : Calls Tryz.prog 3 #[.int .i64 n, .int .i64 d, .agg #[.bool n1, .slice a l.length ca], .agg #[.bool n2, .slice b m.length cb], x.val] w fun e w' => e = .returned (.bool true) ∧ Ext w w' := by
  obtain ⟨nx, ax, cx, lx, mx, bx, dx, kx⟩ := x
  dsimp only [RatA.val]
  have HF0 := Lib.hid (fun W => show Calls Tryz.prog 11 #[.agg #[.bool n1, .slice a l.length ca], .int .i64 6] W _ from fewBig_val n1 a l.length ca 6 W (Nat.le_trans ha.le ha.mx))
  rw [f0] at HF0
  clear ha hb hx1 hn hd f0
  obtain ⟨x1, hw, hx, Ka, Kb, Kx⟩ := boxQ3 w #[.bool n1, .slice a l.length ca] 24 #[.bool n2, .slice b m.length cb] 24 #[.bool nx, .slice ax lx.length cx, .bool mx, .slice bx kx.length dx] 26
  replace hw := Lib.hid hw
  go_enter Tryz.func3, Tryz.ntmps3
  go_upto_region 1 with fail
  try simp only [Nat.add_assoc, Nat.reduceAdd, Nat.add_zero]
  rw [hw.out]
  clear hw
  have hs0 := hx.size
  obtain ⟨ca0, ca1⟩ := bk2 Ka
  obtain ⟨cb0, cb1⟩ := bk2 Kb
  obtain ⟨cx0, cx1, cx2, cx3⟩ := bk4 Kx
  go_wp2_with fail
  with_reducible refine (law10_sane _).mono ?_
  clear ca0 ca1 cb0 cb1 cx0 cx1 cx2 cx3
  rintro e x2 ⟨rfl, hy⟩
  replace hx := hx.trans hy
  replace Ka := kE Ka hy
  replace Kb := kE Kb hy
  replace Kx := kE Kx hy
  clear hy
  obtain ⟨ca0, ca1⟩ := bk2 Ka
  obtain ⟨cb0, cb1⟩ := bk2 Kb
  obtain ⟨cx0, cx1, cx2, cx3⟩ := bk4 Kx
  go_wp2_with fail
  with_reducible refine (HF0.out _).mono ?_
  clear ca0 ca1 cb0 cb1 cx0 cx1 cx2 cx3
  rintro e x3 ⟨rfl, hy⟩
  replace hx := hx.trans hy
  replace Ka := kE Ka hy
  replace Kb := kE Kb hy
  replace Kx := kE Kx hy
  clear hy
  go_wp2_with fail
  go_ret
  exact ⟨rfl, hx⟩
set_option maxHeartbeats 4000000 in
theorem law_MakeSpec_f1 (n d : Int) (hn : -9223372036854775808 ≤ n ∧ n ≤ 9223372036854775807) (hd : -9223372036854775808 ≤ d ∧ d ≤ 9223372036854775807) (n1 n2 : Bool) (a b : Option Addr) (ca cb : Nat) (l m : List Int) (x : RatA) (w : World) (ha : Ints w a ca l) (hb : Ints w b cb m) (hx1 : RatI w x) (f0 : fewQ l.length 6 = true) (f1 : fewQ m.length 6 = false) : Calls Tryz.prog 3 #[.int .i64 n, .int .i64 d, .agg #[.bool n1, .slice a l.length ca], .agg #[.bool n2, .slice b m.length cb], x.val] w fun e w' => e = .returned (.bool true) ∧ Ext w w' := by
  obtain ⟨nx, ax, cx, lx, mx, bx, dx, kx⟩ := x
  dsimp only [RatA.val]
  have HF0 := Lib.hid (fun W => show Calls Tryz.prog 11 #[.agg #[.bool n1, .slice a l.length ca], .int .i64 6] W _ from fewBig_val n1 a l.length ca 6 W (Nat.le_trans ha.le ha.mx))
  rw [f0] at HF0
  have HF1 := Lib.hid (fun W => show Calls Tryz.prog 11 #[.agg #[.bool n2, .slice b m.length cb], .int .i64 6] W _ from fewBig_val n2 b m.length cb 6 W (Nat.le_trans hb.le hb.mx))
  rw [f1] at HF1
  clear ha hb hx1 hn hd f0 f1
  obtain ⟨x1, hw, hx, Ka, Kb, Kx⟩ := boxQ3 w #[.bool n1, .slice a l.length ca] 24 #[.bool n2, .slice b m.length cb] 24 #[.bool nx, .slice ax lx.length cx, .bool mx, .slice bx kx.length dx] 26
  replace hw := Lib.hid hw
  go_enter Tryz.func3, Tryz.ntmps3
  go_upto_region 1 with fail
  try simp only [Nat.add_assoc, Nat.reduceAdd, Nat.add_zero]
  rw [hw.out]
  clear hw
  have hs0 := hx.size
  obtain ⟨ca0, ca1⟩ := bk2 Ka
  obtain ⟨cb0, cb1⟩ := bk2 Kb
  obtain ⟨cx0, cx1, cx2, cx3⟩ := bk4 Kx
  go_wp2_with fail
  with_reducible refine (law10_sane _).mono ?_
  clear ca0 ca1 cb0 cb1 cx0 cx1 cx2 cx3
  rintro e x2 ⟨rfl, hy⟩
  replace hx := hx.trans hy
  replace Ka := kE Ka hy
  replace Kb := kE Kb hy
  replace Kx := kE Kx hy
  clear hy
  obtain ⟨ca0, ca1⟩ := bk2 Ka
  obtain ⟨cb0, cb1⟩ := bk2 Kb
  obtain ⟨cx0, cx1, cx2, cx3⟩ := bk4 Kx
  go_wp2_with fail
  with_reducible refine (HF0.out _).mono ?_
  clear ca0 ca1 cb0 cb1 cx0 cx1 cx2 cx3
  rintro e x3 ⟨rfl, hy⟩
  replace hx := hx.trans hy
  replace Ka := kE Ka hy
  replace Kb := kE Kb hy
  replace Kx := kE Kx hy
  clear hy
  obtain ⟨ca0, ca1⟩ := bk2 Ka
  obtain ⟨cb0, cb1⟩ := bk2 Kb
  obtain ⟨cx0, cx1, cx2, cx3⟩ := bk4 Kx
  go_wp2_with fail
  with_reducible refine (HF1.out _).mono ?_
  clear ca0 ca1 cb0 cb1 cx0 cx1 cx2 cx3
  rintro e x4 ⟨rfl, hy⟩
  replace hx := hx.trans hy
  replace Ka := kE Ka hy
  replace Kb := kE Kb hy
  replace Kx := kE Kx hy
  clear hy
  go_wp2_with fail
  go_ret
  exact ⟨rfl, hx⟩
set_option maxHeartbeats 4000000 in
theorem law_MakeSpec_f2 (n d : Int) (hn : -9223372036854775808 ≤ n ∧ n ≤ 9223372036854775807) (hd : -9223372036854775808 ≤ d ∧ d ≤ 9223372036854775807) (n1 n2 : Bool) (a b : Option Addr) (ca cb : Nat) (l m : List Int) (x : RatA) (w : World) (ha : Ints w a ca l) (hb : Ints w b cb m) (hx1 : RatI w x) (f0 : fewQ l.length 6 = true) (f1 : fewQ m.length 6 = true) (f2 : fewR x = false) : Calls Tryz.prog 3 #[.int .i64 n, .int .i64 d, .agg #[.bool n1, .slice a l.length ca], .agg #[.bool n2, .slice b m.length cb], x.val] w fun e w' => e = .returned (.bool true) ∧ Ext w w' := by
  obtain ⟨nx, ax, cx, lx, mx, bx, dx, kx⟩ := x
  dsimp only [RatA.val]
  have f2 : (fewQ lx.length 6 && fewQ kx.length 6) = false := f2
  have HF0 := Lib.hid (fun W => show Calls Tryz.prog 11 #[.agg #[.bool n1, .slice a l.length ca], .int .i64 6] W _ from fewBig_val n1 a l.length ca 6 W (Nat.le_trans ha.le ha.mx))
  rw [f0] at HF0
  have HF1 := Lib.hid (fun W => show Calls Tryz.prog 11 #[.agg #[.bool n2, .slice b m.length cb], .int .i64 6] W _ from fewBig_val n2 b m.length cb 6 W (Nat.le_trans hb.le hb.mx))
  rw [f1] at HF1
  have HF2 := Lib.hid (fun W => show Calls Tryz.prog 12 #[.agg #[.bool nx, .slice ax lx.length cx, .bool mx, .slice bx kx.length dx], .int .i64 6] W _ from few_val nx mx ax bx lx.length cx kx.length dx 6 W (Nat.le_trans hx1.i.le hx1.i.mx) (Nat.le_trans hx1.j.le hx1.j.mx))
  rw [f2] at HF2
  clear ha hb hx1 hn hd f0 f1 f2
  obtain ⟨x1, hw, hx, Ka, Kb, Kx⟩ := boxQ3 w #[.bool n1, .slice a l.length ca] 24 #[.bool n2, .slice b m.length cb] 24 #[.bool nx, .slice ax lx.length cx, .bool mx, .slice bx kx.length dx] 26
  replace hw := Lib.hid hw
  go_enter Tryz.func3, Tryz.ntmps3
  go_upto_region 1 with fail
  try simp only [Nat.add_assoc, Nat.reduceAdd, Nat.add_zero]
  rw [hw.out]
  clear hw
  have hs0 := hx.size
  obtain ⟨ca0, ca1⟩ := bk2 Ka
  obtain ⟨cb0, cb1⟩ := bk2 Kb
  obtain ⟨cx0, cx1, cx2, cx3⟩ := bk4 Kx
  go_wp2_with fail
  with_reducible refine (law10_sane _).mono ?_
  clear ca0 ca1 cb0 cb1 cx0 cx1 cx2 cx3
  rintro e x2 ⟨rfl, hy⟩
  replace hx := hx.trans hy
  replace Ka := kE Ka hy
  replace Kb := kE Kb hy
  replace Kx := kE Kx hy
  clear hy
  obtain ⟨ca0, ca1⟩ := bk2 Ka
  obtain ⟨cb0, cb1⟩ := bk2 Kb
  obtain ⟨cx0, cx1, cx2, cx3⟩ := bk4 Kx
  go_wp2_with fail
  with_reducible refine (HF0.out _).mono ?_
  clear ca0 ca1 cb0 cb1 cx0 cx1 cx2 cx3
  rintro e x3 ⟨rfl, hy⟩
  replace hx := hx.trans hy
  replace Ka := kE Ka hy
  replace Kb := kE Kb hy
  replace Kx := kE Kx hy
  clear hy
  obtain ⟨ca0, ca1⟩ := bk2 Ka
  obtain ⟨cb0, cb1⟩ := bk2 Kb
  obtain ⟨cx0, cx1, cx2, cx3⟩ := bk4 Kx
  go_wp2_with fail
  with_reducible refine (HF1.out _).mono ?_
  clear ca0 ca1 cb0 cb1 cx0 cx1 cx2 cx3
  rintro e x4 ⟨rfl, hy⟩
  replace hx := hx.trans hy
  replace Ka := kE Ka hy
  replace Kb := kE Kb hy
  replace Kx := kE Kx hy
  clear hy
  obtain ⟨ca0, ca1⟩ := bk2 Ka
  obtain ⟨cb0, cb1⟩ := bk2 Kb
  obtain ⟨cx0, cx1, cx2, cx3⟩ := bk4 Kx
  go_wp2_with fail
  with_reducible refine (HF2.out _).mono ?_
  clear ca0 ca1 cb0 cb1 cx0 cx1 cx2 cx3
  rintro e x5 ⟨rfl, hy⟩
  replace hx := hx.trans hy
  replace Ka := kE Ka hy
  replace Kb := kE Kb hy
  replace Kx := kE Kx hy
  clear hy
  go_wp2_with fail
  go_ret
  exact ⟨rfl, hx⟩
set_option maxHeartbeats 4000000 in
theorem law_MakeSpec_ok (n d : Int) (hn : -9223372036854775808 ≤ n ∧ n ≤ 9223372036854775807) (hd : -9223372036854775808 ≤ d ∧ d ≤ 9223372036854775807) (n1 n2 : Bool) (a b : Option Addr) (ca cb : Nat) (l m : List Int) (x : RatA) (w : World) (ha : Ints w a ca l) (hb : Ints w b cb m) (hx1 : RatI w x) (f0 : fewQ l.length 6 = true) (f1 : fewQ m.length 6 = true) (f2 : fewR x = true) : Calls Tryz.prog 3 #[.int .i64 n, .int .i64 d, .agg #[.bool n1, .slice a l.length ca], .agg #[.bool n2, .slice b m.length cb], x.val] w fun e w' => e = .returned (.bool true) ∧ Ext w w' := by
  obtain ⟨nx, ax, cx, lx, mx, bx, dx, kx⟩ := x
  dsimp only [RatA.val]
  have f2 : (fewQ lx.length 6 && fewQ kx.length 6) = true := f2
  have HF0 := Lib.hid (fun W => show Calls Tryz.prog 11 #[.agg #[.bool n1, .slice a l.length ca], .int .i64 6] W _ from fewBig_val n1 a l.length ca 6 W (Nat.le_trans ha.le ha.mx))
  rw [f0] at HF0
  have HF1 := Lib.hid (fun W => show Calls Tryz.prog 11 #[.agg #[.bool n2, .slice b m.length cb], .int .i64 6] W _ from fewBig_val n2 b m.length cb 6 W (Nat.le_trans hb.le hb.mx))
  rw [f1] at HF1
  have HF2 := Lib.hid (fun W => show Calls Tryz.prog 12 #[.agg #[.bool nx, .slice ax lx.length cx, .bool mx, .slice bx kx.length dx], .int .i64 6] W _ from few_val nx mx ax bx lx.length cx kx.length dx 6 W (Nat.le_trans hx1.i.le hx1.i.mx) (Nat.le_trans hx1.j.le hx1.j.mx))
  rw [f2] at HF2
  obtain ⟨zm, ym, Em, hBM⟩ := both_Make n d w hn hd
  obtain ⟨zo, yo, Eo, hBO⟩ := both_Of (n1 := n1) (n2 := n2) ha hb
  have HBM := Lib.hid hBM
  have HBO := Lib.hid hBO
  have hC1 := fun W (hy : Ext w W) => ratio_Check nx mx ax bx cx dx lx kx W (hx1.i.ext hy) (hx1.j.ext hy)
  have hC2 := fun W (hy : Ext w W) => refR_Check nx mx ax bx cx dx lx kx W (hx1.i.ext hy) (hx1.j.ext hy)
  generalize errR (okR nx lx mx kx) = EX at *
  have HC1 := Lib.hid hC1
  have HC2 := Lib.hid hC2
  clear hBM hBO hC1 hC2
  clear ha hb hx1 hn hd f0 f1 f2
  obtain ⟨x1, hw, hx, Ka, Kb, Kx⟩ := boxQ3 w #[.bool n1, .slice a l.length ca] 24 #[.bool n2, .slice b m.length cb] 24 #[.bool nx, .slice ax lx.length cx, .bool mx, .slice bx kx.length dx] 26
  replace hw := Lib.hid hw
  go_enter Tryz.func3, Tryz.ntmps3
  go_upto_region 1 with fail
  try simp only [Nat.add_assoc, Nat.reduceAdd, Nat.add_zero]
  rw [hw.out]
  clear hw
  have hs0 := hx.size
  obtain ⟨ca0, ca1⟩ := bk2 Ka
  obtain ⟨cb0, cb1⟩ := bk2 Kb
  obtain ⟨cx0, cx1, cx2, cx3⟩ := bk4 Kx
  go_wp2_with fail
  with_reducible refine (law10_sane _).mono ?_
  clear ca0 ca1 cb0 cb1 cx0 cx1 cx2 cx3
  rintro e x2 ⟨rfl, hy⟩
  replace hx := hx.trans hy
  replace Ka := kE Ka hy
  replace Kb := kE Kb hy
  replace Kx := kE Kx hy
  clear hy
  obtain ⟨ca0, ca1⟩ := bk2 Ka
  obtain ⟨cb0, cb1⟩ := bk2 Kb
  obtain ⟨cx0, cx1, cx2, cx3⟩ := bk4 Kx
  go_wp2_with fail
  with_reducible refine (HF0.out _).mono ?_
  clear ca0 ca1 cb0 cb1 cx0 cx1 cx2 cx3
  rintro e x3 ⟨rfl, hy⟩
  replace hx := hx.trans hy
  replace Ka := kE Ka hy
  replace Kb := kE Kb hy
  replace Kx := kE Kx hy
  clear hy
  obtain ⟨ca0, ca1⟩ := bk2 Ka
  obtain ⟨cb0, cb1⟩ := bk2 Kb
  obtain ⟨cx0, cx1, cx2, cx3⟩ := bk4 Kx
  go_wp2_with fail
  with_reducible refine (HF1.out _).mono ?_
  clear ca0 ca1 cb0 cb1 cx0 cx1 cx2 cx3
  rintro e x4 ⟨rfl, hy⟩
  replace hx := hx.trans hy
  replace Ka := kE Ka hy
  replace Kb := kE Kb hy
  replace Kx := kE Kx hy
  clear hy
  obtain ⟨ca0, ca1⟩ := bk2 Ka
  obtain ⟨cb0, cb1⟩ := bk2 Kb
  obtain ⟨cx0, cx1, cx2, cx3⟩ := bk4 Kx
  go_wp2_with fail
  with_reducible refine (HF2.out _).mono ?_
  clear ca0 ca1 cb0 cb1 cx0 cx1 cx2 cx3
  rintro e x5 ⟨rfl, hy⟩
  replace hx := hx.trans hy
  replace Ka := kE Ka hy
  replace Kb := kE Kb hy
  replace Kx := kE Kx hy
  clear hy
  obtain ⟨ca0, ca1⟩ := bk2 Ka
  obtain ⟨cb0, cb1⟩ := bk2 Kb
  obtain ⟨cx0, cx1, cx2, cx3⟩ := bk4 Kx
  go_wp2_with fail
  with_reducible refine ((HBM.out _ hx).1).mono ?_
  clear ca0 ca1 cb0 cb1 cx0 cx1 cx2 cx3
  rintro e x6 ⟨np, ap, qp, cp, mp, bp, kp, dp, rfl, hv, hu, hy⟩
  replace hx := hx.trans hy
  replace Ka := kE Ka hy
  replace Kb := kE Kb hy
  replace Kx := kE Kx hy
  clear hy
  have Np := Lib.hid hv
  have Dp := Lib.hid hu
  clear hv hu
  go_upto_region 6 with fail
  have hl := Ext.alloc x6 (.cells #[.bool np, .slice ap qp cp, .bool mp, .slice bp kp dp] 26)
  have lap : w.heap.size < x6.heap.size := Ka.out.lt
  have lbp : w.heap.size + 1 < x6.heap.size := Kb.out.lt
  have lxp : w.heap.size + 2 < x6.heap.size := Kx.out.lt
  have hpp : w.heap.size ≤ x6.heap.size := hx.size
  replace hx := hx.trans hl
  replace Ka := kE Ka hl
  replace Kb := kE Kb hl
  replace Kx := kE Kx hl
  replace Np := Lib.hid (Np.out.ext hl)
  replace Dp := Lib.hid (Dp.out.ext hl)
  have Kp := Lib.hid (Blk.new0 x6 #[.bool np, .slice ap qp cp, .bool mp, .slice bp kp dp] 26)
  clear hl
  generalize x6.alloc (.cells #[.bool np, .slice ap qp cp, .bool mp, .slice bp kp dp] 26) = x7 at *
  generalize x6.heap.size = pp at *
  go_wp2_with fail
  with_reducible refine ((HBM.out _ hx).2).mono ?_
  rintro e x8 ⟨nq, aq, qq, cq, mq, bq, kq, dq, rfl, hv, hu, hy⟩
  replace hx := hx.trans hy
  replace Ka := kE Ka hy
  replace Kb := kE Kb hy
  replace Kx := kE Kx hy
  replace Kp := kE Kp hy
  replace Np := Lib.hid (Np.out.ext hy)
  replace Dp := Lib.hid (Dp.out.ext hy)
  clear hy
  have Nq := Lib.hid hv
  have Dq := Lib.hid hu
  clear hv hu
  go_upto_region 7 with fail
  have hl := Ext.alloc x8 (.cells #[.bool nq, .slice aq qq cq, .bool mq, .slice bq kq dq] 26)
  have laq : w.heap.size < x8.heap.size := Ka.out.lt
  have lbq : w.heap.size + 1 < x8.heap.size := Kb.out.lt
  have lxq : w.heap.size + 2 < x8.heap.size := Kx.out.lt
  have lpq : pp < x8.heap.size := Kp.out.lt
  have hpq : w.heap.size ≤ x8.heap.size := hx.size
  replace hx := hx.trans hl
  replace Ka := kE Ka hl
  replace Kb := kE Kb hl
  replace Kx := kE Kx hl
  replace Kp := kE Kp hl
  replace Np := Lib.hid (Np.out.ext hl)
  replace Dp := Lib.hid (Dp.out.ext hl)
  replace Nq := Lib.hid (Nq.out.ext hl)
  replace Dq := Lib.hid (Dq.out.ext hl)
  have Kq := Lib.hid (Blk.new0 x8 #[.bool nq, .slice aq qq cq, .bool mq, .slice bq kq dq] 26)
  clear hl
  generalize x8.alloc (.cells #[.bool nq, .slice aq qq cq, .bool mq, .slice bq kq dq] 26) = x9 at *
  generalize x8.heap.size = pq at *
  obtain ⟨ca0, ca1⟩ := bk2 Ka
  obtain ⟨cb0, cb1⟩ := bk2 Kb
  go_wp2_with fail
  with_reducible refine ((HBO.out _ hx).1).mono ?_
  clear ca0 ca1 cb0 cb1
  rintro e x10 ⟨nr, ar, qr, cr, mr, br, kr, dr, rfl, hv, hu, hy⟩
  replace hx := hx.trans hy
  replace Ka := kE Ka hy
  replace Kb := kE Kb hy
  replace Kx := kE Kx hy
  replace Kp := kE Kp hy
  replace Kq := kE Kq hy
  replace Np := Lib.hid (Np.out.ext hy)
  replace Dp := Lib.hid (Dp.out.ext hy)
  replace Nq := Lib.hid (Nq.out.ext hy)
  replace Dq := Lib.hid (Dq.out.ext hy)
  clear hy
  have Nr := Lib.hid hv
  have Dr := Lib.hid hu
  clear hv hu
  go_upto_region 8 with fail
  have hl := Ext.alloc x10 (.cells #[.bool nr, .slice ar qr cr, .bool mr, .slice br kr dr] 26)
  have lar : w.heap.size < x10.heap.size := Ka.out.lt
  have lbr : w.heap.size + 1 < x10.heap.size := Kb.out.lt
  have lxr : w.heap.size + 2 < x10.heap.size := Kx.out.lt
  have lpr : pp < x10.heap.size := Kp.out.lt
  have lqr : pq < x10.heap.size := Kq.out.lt
  have hpr : w.heap.size ≤ x10.heap.size := hx.size
  replace hx := hx.trans hl
  replace Ka := kE Ka hl
  replace Kb := kE Kb hl
  replace Kx := kE Kx hl
  replace Kp := kE Kp hl
  replace Kq := kE Kq hl
  replace Np := Lib.hid (Np.out.ext hl)
  replace Dp := Lib.hid (Dp.out.ext hl)
  replace Nq := Lib.hid (Nq.out.ext hl)
  replace Dq := Lib.hid (Dq.out.ext hl)
  replace Nr := Lib.hid (Nr.out.ext hl)
  replace Dr := Lib.hid (Dr.out.ext hl)
  have Kr := Lib.hid (Blk.new0 x10 #[.bool nr, .slice ar qr cr, .bool mr, .slice br kr dr] 26)
  clear hl
  generalize x10.alloc (.cells #[.bool nr, .slice ar qr cr, .bool mr, .slice br kr dr] 26) = x11 at *
  generalize x10.heap.size = pr at *
  obtain ⟨ca0, ca1⟩ := bk2 Ka
  obtain ⟨cb0, cb1⟩ := bk2 Kb
  go_wp2_with fail
  with_reducible refine ((HBO.out _ hx).2).mono ?_
  clear ca0 ca1 cb0 cb1
  rintro e x12 ⟨nv, av, qv, cv, mv, bv, kv, dv, rfl, hv, hu, hy⟩
  replace hx := hx.trans hy
  replace Ka := kE Ka hy
  replace Kb := kE Kb hy
  replace Kx := kE Kx hy
  replace Kp := kE Kp hy
  replace Kq := kE Kq hy
  replace Kr := kE Kr hy
  replace Np := Lib.hid (Np.out.ext hy)
  replace Dp := Lib.hid (Dp.out.ext hy)
  replace Nq := Lib.hid (Nq.out.ext hy)
  replace Dq := Lib.hid (Dq.out.ext hy)
  replace Nr := Lib.hid (Nr.out.ext hy)
  replace Dr := Lib.hid (Dr.out.ext hy)
  clear hy
  have Nv := Lib.hid hv
  have Dv := Lib.hid hu
  clear hv hu
  go_upto_region 9 with fail
  have hl := Ext.alloc x12 (.cells #[.bool nv, .slice av qv cv, .bool mv, .slice bv kv dv] 26)
  have lav : w.heap.size < x12.heap.size := Ka.out.lt
  have lbv : w.heap.size + 1 < x12.heap.size := Kb.out.lt
  have lxv : w.heap.size + 2 < x12.heap.size := Kx.out.lt
  have lpv : pp < x12.heap.size := Kp.out.lt
  have lqv : pq < x12.heap.size := Kq.out.lt
  have lrv : pr < x12.heap.size := Kr.out.lt
  have hpv : w.heap.size ≤ x12.heap.size := hx.size
  replace hx := hx.trans hl
  replace Ka := kE Ka hl
  replace Kb := kE Kb hl
  replace Kx := kE Kx hl
  replace Kp := kE Kp hl
  replace Kq := kE Kq hl
  replace Kr := kE Kr hl
  replace Np := Lib.hid (Np.out.ext hl)
  replace Dp := Lib.hid (Dp.out.ext hl)
  replace Nq := Lib.hid (Nq.out.ext hl)
  replace Dq := Lib.hid (Dq.out.ext hl)
  replace Nr := Lib.hid (Nr.out.ext hl)
  replace Dr := Lib.hid (Dr.out.ext hl)
  replace Nv := Lib.hid (Nv.out.ext hl)
  replace Dv := Lib.hid (Dv.out.ext hl)
  have Kv := Lib.hid (Blk.new0 x12 #[.bool nv, .slice av qv cv, .bool mv, .slice bv kv dv] 26)
  clear hl
  generalize x12.alloc (.cells #[.bool nv, .slice av qv cv, .bool mv, .slice bv kv dv] 26) = x13 at *
  generalize x12.heap.size = pv at *
  clear Ka Kb
  have s0 : World.cell? x13 ⟨pp, 0, none⟩ = some (.bool np) := Kp.out.cell (i := 0) (v := .bool np) rfl
  have s1 : World.cell? x13 ⟨pp, 1, none⟩ = some (.slice ap qp cp) := Kp.out.cell (i := 1) (v := .slice ap qp cp) rfl
  have s2 : World.cell? x13 ⟨pp, 2, none⟩ = some (.bool mp) := Kp.out.cell (i := 2) (v := .bool mp) rfl
  have s3 : World.cell? x13 ⟨pp, 3, none⟩ = some (.slice bp kp dp) := Kp.out.cell (i := 3) (v := .slice bp kp dp) rfl
  have s4 : World.cell? x13 ⟨pq, 0, none⟩ = some (.bool nq) := Kq.out.cell (i := 0) (v := .bool nq) rfl
  have s5 : World.cell? x13 ⟨pq, 1, none⟩ = some (.slice aq qq cq) := Kq.out.cell (i := 1) (v := .slice aq qq cq) rfl
  have s6 : World.cell? x13 ⟨pq, 2, none⟩ = some (.bool mq) := Kq.out.cell (i := 2) (v := .bool mq) rfl
  have s7 : World.cell? x13 ⟨pq, 3, none⟩ = some (.slice bq kq dq) := Kq.out.cell (i := 3) (v := .slice bq kq dq) rfl
  have s8 : World.cell? x13 ⟨pr, 0, none⟩ = some (.bool nr) := Kr.out.cell (i := 0) (v := .bool nr) rfl
  have s9 : World.cell? x13 ⟨pr, 1, none⟩ = some (.slice ar qr cr) := Kr.out.cell (i := 1) (v := .slice ar qr cr) rfl
  have s10 : World.cell? x13 ⟨pr, 2, none⟩ = some (.bool mr) := Kr.out.cell (i := 2) (v := .bool mr) rfl
  have s11 : World.cell? x13 ⟨pr, 3, none⟩ = some (.slice br kr dr) := Kr.out.cell (i := 3) (v := .slice br kr dr) rfl
  have s12 : World.cell? x13 ⟨pv, 0, none⟩ = some (.bool nv) := Kv.out.cell (i := 0) (v := .bool nv) rfl
  have s13 : World.cell? x13 ⟨pv, 1, none⟩ = some (.slice av qv cv) := Kv.out.cell (i := 1) (v := .slice av qv cv) rfl
  have s14 : World.cell? x13 ⟨pv, 2, none⟩ = some (.bool mv) := Kv.out.cell (i := 2) (v := .bool mv) rfl
  have s15 : World.cell? x13 ⟨pv, 3, none⟩ = some (.slice bv kv dv) := Kv.out.cell (i := 3) (v := .slice bv kv dv) rfl
  have s16 : World.cell? x13 ⟨w.heap.size + 2, 0, none⟩ = some (.bool nx) := Kx.out.cell (i := 0) (v := .bool nx) rfl
  have s17 : World.cell? x13 ⟨w.heap.size + 2, 1, none⟩ = some (.slice ax lx.length cx) := Kx.out.cell (i := 1) (v := .slice ax lx.length cx) rfl
  have s18 : World.cell? x13 ⟨w.heap.size + 2, 2, none⟩ = some (.bool mx) := Kx.out.cell (i := 2) (v := .bool mx) rfl
  have s19 : World.cell? x13 ⟨w.heap.size + 2, 3, none⟩ = some (.slice bx kx.length dx) := Kx.out.cell (i := 3) (v := .slice bx kx.length dx) rfl
  have hE : Ext x13 (World.drew x13) := (Ext.refl _).drew
  have hyd : Ext x13 (World.drew x13) := (Ext.refl _).drew
  replace hx := hx.trans hyd
  replace Kx := kE Kx hyd
  replace Kp := kE Kp hyd
  replace Kq := kE Kq hyd
  replace Kr := kE Kr hyd
  replace Kv := kE Kv hyd
  replace Np := Lib.hid (Np.out.ext hyd)
  replace Dp := Lib.hid (Dp.out.ext hyd)
  replace Nq := Lib.hid (Nq.out.ext hyd)
  replace Dq := Lib.hid (Dq.out.ext hyd)
  replace Nr := Lib.hid (Nr.out.ext hyd)
  replace Dr := Lib.hid (Dr.out.ext hyd)
  replace Nv := Lib.hid (Nv.out.ext hyd)
  replace Dv := Lib.hid (Dv.out.ext hyd)
  clear hyd
  replace s0 : World.cell? (World.drew x13) ⟨pp, 0, none⟩ = some (.bool np) := s0
  replace s1 : World.cell? (World.drew x13) ⟨pp, 1, none⟩ = some (.slice ap qp cp) := s1
  replace s2 : World.cell? (World.drew x13) ⟨pp, 2, none⟩ = some (.bool mp) := s2
  replace s3 : World.cell? (World.drew x13) ⟨pp, 3, none⟩ = some (.slice bp kp dp) := s3
  replace s4 : World.cell? (World.drew x13) ⟨pq, 0, none⟩ = some (.bool nq) := s4
  replace s5 : World.cell? (World.drew x13) ⟨pq, 1, none⟩ = some (.slice aq qq cq) := s5
  replace s6 : World.cell? (World.drew x13) ⟨pq, 2, none⟩ = some (.bool mq) := s6
  replace s7 : World.cell? (World.drew x13) ⟨pq, 3, none⟩ = some (.slice bq kq dq) := s7
  replace s8 : World.cell? (World.drew x13) ⟨pr, 0, none⟩ = some (.bool nr) := s8
  replace s9 : World.cell? (World.drew x13) ⟨pr, 1, none⟩ = some (.slice ar qr cr) := s9
  replace s10 : World.cell? (World.drew x13) ⟨pr, 2, none⟩ = some (.bool mr) := s10
  replace s11 : World.cell? (World.drew x13) ⟨pr, 3, none⟩ = some (.slice br kr dr) := s11
  replace s12 : World.cell? (World.drew x13) ⟨pv, 0, none⟩ = some (.bool nv) := s12
  replace s13 : World.cell? (World.drew x13) ⟨pv, 1, none⟩ = some (.slice av qv cv) := s13
  replace s14 : World.cell? (World.drew x13) ⟨pv, 2, none⟩ = some (.bool mv) := s14
  replace s15 : World.cell? (World.drew x13) ⟨pv, 3, none⟩ = some (.slice bv kv dv) := s15
  replace s16 : World.cell? (World.drew x13) ⟨w.heap.size + 2, 0, none⟩ = some (.bool nx) := s16
  replace s17 : World.cell? (World.drew x13) ⟨w.heap.size + 2, 1, none⟩ = some (.slice ax lx.length cx) := s17
  replace s18 : World.cell? (World.drew x13) ⟨w.heap.size + 2, 2, none⟩ = some (.bool mx) := s18
  replace s19 : World.cell? (World.drew x13) ⟨w.heap.size + 2, 3, none⟩ = some (.slice bx kx.length dx) := s19
  refine wp_region_held_drew (S := (fun w' => World.cell? w' ⟨pp, 0, none⟩ = some (.bool np) ∧ World.cell? w' ⟨pp, 1, none⟩ = some (.slice ap qp cp) ∧ World.cell? w' ⟨pp, 2, none⟩ = some (.bool mp) ∧ World.cell? w' ⟨pp, 3, none⟩ = some (.slice bp kp dp) ∧ World.cell? w' ⟨pq, 0, none⟩ = some (.bool nq) ∧ World.cell? w' ⟨pq, 1, none⟩ = some (.slice aq qq cq) ∧ World.cell? w' ⟨pq, 2, none⟩ = some (.bool mq) ∧ World.cell? w' ⟨pq, 3, none⟩ = some (.slice bq kq dq) ∧ World.cell? w' ⟨pr, 0, none⟩ = some (.bool nr) ∧ World.cell? w' ⟨pr, 1, none⟩ = some (.slice ar qr cr) ∧ World.cell? w' ⟨pr, 2, none⟩ = some (.bool mr) ∧ World.cell? w' ⟨pr, 3, none⟩ = some (.slice br kr dr) ∧ World.cell? w' ⟨pv, 0, none⟩ = some (.bool nv) ∧ World.cell? w' ⟨pv, 1, none⟩ = some (.slice av qv cv) ∧ World.cell? w' ⟨pv, 2, none⟩ = some (.bool mv) ∧ World.cell? w' ⟨pv, 3, none⟩ = some (.slice bv kv dv) ∧ World.cell? w' ⟨w.heap.size + 2, 0, none⟩ = some (.bool nx) ∧ World.cell? w' ⟨w.heap.size + 2, 1, none⟩ = some (.slice ax lx.length cx) ∧ World.cell? w' ⟨w.heap.size + 2, 2, none⟩ = some (.bool mx) ∧ World.cell? w' ⟨w.heap.size + 2, 3, none⟩ = some (.slice bx kx.length dx))) (by kernel_rfl) ?_ (fun hHeld => ?_)
  · exact ⟨s0, s1, s2, s3, s4, s5, s6, s7, s8, s9, s10, s11, s12, s13, s14, s15, s16, s17, s18, s19⟩
  generalize World.drew x13 = x14 at *
  refine wpAnyH_take (i := 0) (oi := _) (v := ?_) rfl (by kernel_rfl) (by kernel_rfl) (by kernel_rfl) (fun _ _ _ h => h) (Or.inl ⟨by rfl, ?_⟩) (by assumption) ?_
  rotate_left
  · (intro w hSw; (try dsimp only at hSw); (try go_simp); (try with_reducible rfl))
  (try simp only [Act.put, List.getElem_toArray, List.getElem_cons_succ, List.getElem_cons_zero, List.setIfInBounds_toArray, List.set_cons_zero, List.set_cons_succ])
  refine wpAnyH_take (i := 1) (oi := _) (v := ?_) rfl (by kernel_rfl) (by kernel_rfl) (by kernel_rfl) (fun _ _ _ h => h) (Or.inl ⟨by rfl, ?_⟩) (by assumption) ?_
  rotate_left
  · (intro w hSw; (try dsimp only at hSw); (try go_simp); (try with_reducible rfl))
  (try simp only [Act.put, List.getElem_toArray, List.getElem_cons_succ, List.getElem_cons_zero, List.setIfInBounds_toArray, List.set_cons_zero, List.set_cons_succ])
  refine wpAnyH_ready (rs := [2]) (by kernel_rfl) (by simp) ?_
  refine AllReadyH.cons (o := _) rfl (fun K hK => ?_) ?_
  · go_simp
    (with_reducible refine (same_val Np.out Dp.out Nq.out Dq.out).mono ?_); rintro e x15 ⟨rfl, hy⟩; replace hE := hE.trans hy; replace hx := hx.trans hy; replace s0 := cell_exQ hy s0; replace s1 := cell_exQ hy s1; replace s2 := cell_exQ hy s2; replace s3 := cell_exQ hy s3; replace s4 := cell_exQ hy s4; replace s5 := cell_exQ hy s5; replace s6 := cell_exQ hy s6; replace s7 := cell_exQ hy s7; replace s8 := cell_exQ hy s8; replace s9 := cell_exQ hy s9; replace s10 := cell_exQ hy s10; replace s11 := cell_exQ hy s11; replace s12 := cell_exQ hy s12; replace s13 := cell_exQ hy s13; replace s14 := cell_exQ hy s14; replace s15 := cell_exQ hy s15; replace s16 := cell_exQ hy s16; replace s17 := cell_exQ hy s17; replace s18 := cell_exQ hy s18; replace s19 := cell_exQ hy s19; replace Kx := kE Kx hy; replace Kp := kE Kp hy; replace Kq := kE Kq hy; replace Kr := kE Kr hy; replace Kv := kE Kv hy; replace Np := Lib.hid (Np.out.ext hy); replace Dp := Lib.hid (Dp.out.ext hy); replace Nq := Lib.hid (Nq.out.ext hy); replace Dq := Lib.hid (Dq.out.ext hy); replace Nr := Lib.hid (Nr.out.ext hy); replace Dr := Lib.hid (Dr.out.ext hy); replace Nv := Lib.hid (Nv.out.ext hy); replace Dv := Lib.hid (Dv.out.ext hy); clear hy; rw [decide_eq_true (by exact ⟨rfl, rfl⟩)]
    refine hK.out _ _ ?_ (fun hHeld2 => ?_)
    · exact ⟨s0, s1, s2, s3, s4, s5, s6, s7, s8, s9, s10, s11, s12, s13, s14, s15, s16, s17, s18, s19⟩
    clear hK K hHeld
    have hHeld := hHeld2
    clear hHeld2
    (try simp only [Act.put, List.getElem_toArray, List.getElem_cons_succ, List.getElem_cons_zero, List.setIfInBounds_toArray, List.set_cons_zero, List.set_cons_succ])
    refine wpAnyH_take (i := 3) (oi := _) (v := ?_) rfl (by kernel_rfl) (by kernel_rfl) (by kernel_rfl) (fun _ _ _ h => h) (Or.inl ⟨by rfl, ?_⟩) (by assumption) ?_
    rotate_left
    · (intro w hSw; (try dsimp only at hSw); (try go_simp); (try with_reducible rfl))
    (try simp only [Act.put, List.getElem_toArray, List.getElem_cons_succ, List.getElem_cons_zero, List.setIfInBounds_toArray, List.set_cons_zero, List.set_cons_succ])
    refine wpAnyH_take (i := 4) (oi := _) (v := ?_) rfl (by kernel_rfl) (by kernel_rfl) (by kernel_rfl) (fun _ _ _ h => h) (Or.inl ⟨by rfl, ?_⟩) (by assumption) ?_
    rotate_left
    · (intro w hSw; (try dsimp only at hSw); (try go_simp); (try with_reducible rfl))
    (try simp only [Act.put, List.getElem_toArray, List.getElem_cons_succ, List.getElem_cons_zero, List.setIfInBounds_toArray, List.set_cons_zero, List.set_cons_succ])
    refine wpAnyH_take (i := 5) (oi := _) (v := ?_) rfl (by kernel_rfl) (by kernel_rfl) (by kernel_rfl) (fun _ _ _ h => h) (Or.inl ⟨by rfl, ?_⟩) (by assumption) ?_
    rotate_left
    · (intro w hSw; (try dsimp only at hSw); (try go_simp); (try with_reducible rfl))
    (try simp only [Act.put, List.getElem_toArray, List.getElem_cons_succ, List.getElem_cons_zero, List.setIfInBounds_toArray, List.set_cons_zero, List.set_cons_succ])
    refine wpAnyH_take (i := 6) (oi := _) (v := ?_) rfl (by kernel_rfl) (by kernel_rfl) (by kernel_rfl) (fun _ _ _ h => h) (Or.inl ⟨by rfl, ?_⟩) (by assumption) ?_
    rotate_left
    · (intro w hSw; (try dsimp only at hSw); (try go_simp); (try with_reducible rfl))
    (try simp only [Act.put, List.getElem_toArray, List.getElem_cons_succ, List.getElem_cons_zero, List.setIfInBounds_toArray, List.set_cons_zero, List.set_cons_succ])
    refine wpAnyH_take (i := 7) (oi := _) (v := ?_) rfl (by kernel_rfl) (by kernel_rfl) (by kernel_rfl) (fun _ _ _ h => h) (Or.inl ⟨by rfl, ?_⟩) (by assumption) ?_
    rotate_left
    · (intro w hSw; (try dsimp only at hSw); (try go_simp); (try with_reducible rfl))
    (try simp only [Act.put, List.getElem_toArray, List.getElem_cons_succ, List.getElem_cons_zero, List.setIfInBounds_toArray, List.set_cons_zero, List.set_cons_succ])
    refine wpAnyH_take (i := 8) (oi := _) (v := ?_) rfl (by kernel_rfl) (by kernel_rfl) (by kernel_rfl) (fun _ _ _ h => h) (Or.inl ⟨by rfl, ?_⟩) (by assumption) ?_
    rotate_left
    · (intro w hSw; (try dsimp only at hSw); (try go_simp); (try with_reducible rfl))
    (try simp only [Act.put, List.getElem_toArray, List.getElem_cons_succ, List.getElem_cons_zero, List.setIfInBounds_toArray, List.set_cons_zero, List.set_cons_succ])
    refine wpAnyH_take (i := 9) (oi := _) (v := ?_) rfl (by kernel_rfl) (by kernel_rfl) (by kernel_rfl) (fun _ _ _ h => h) (Or.inl ⟨by rfl, ?_⟩) (by assumption) ?_
    rotate_left
    · (intro w hSw; (try dsimp only at hSw); (try go_simp); (try with_reducible rfl))
    (try simp only [Act.put, List.getElem_toArray, List.getElem_cons_succ, List.getElem_cons_zero, List.setIfInBounds_toArray, List.set_cons_zero, List.set_cons_succ])
    refine wpAnyH_take (i := 10) (oi := _) (v := ?_) rfl (by kernel_rfl) (by kernel_rfl) (by kernel_rfl) (fun _ _ _ h => h) (Or.inl ⟨by rfl, ?_⟩) (by assumption) ?_
    rotate_left
    · (intro w hSw; (try dsimp only at hSw); (try go_simp); (try with_reducible rfl))
    (try simp only [Act.put, List.getElem_toArray, List.getElem_cons_succ, List.getElem_cons_zero, List.setIfInBounds_toArray, List.set_cons_zero, List.set_cons_succ])
    refine wpAnyH_ready (rs := [11]) (by kernel_rfl) (by simp) ?_
    refine AllReadyH.cons (o := _) rfl (fun K hK => ?_) ?_
    · go_simp
      (with_reducible refine (same_val Nr.out Dr.out Nv.out Dv.out).mono ?_); rintro e x16 ⟨rfl, hy⟩; replace hE := hE.trans hy; replace hx := hx.trans hy; replace s0 := cell_exQ hy s0; replace s1 := cell_exQ hy s1; replace s2 := cell_exQ hy s2; replace s3 := cell_exQ hy s3; replace s4 := cell_exQ hy s4; replace s5 := cell_exQ hy s5; replace s6 := cell_exQ hy s6; replace s7 := cell_exQ hy s7; replace s8 := cell_exQ hy s8; replace s9 := cell_exQ hy s9; replace s10 := cell_exQ hy s10; replace s11 := cell_exQ hy s11; replace s12 := cell_exQ hy s12; replace s13 := cell_exQ hy s13; replace s14 := cell_exQ hy s14; replace s15 := cell_exQ hy s15; replace s16 := cell_exQ hy s16; replace s17 := cell_exQ hy s17; replace s18 := cell_exQ hy s18; replace s19 := cell_exQ hy s19; replace Kx := kE Kx hy; replace Kp := kE Kp hy; replace Kq := kE Kq hy; replace Kr := kE Kr hy; replace Kv := kE Kv hy; replace Np := Lib.hid (Np.out.ext hy); replace Dp := Lib.hid (Dp.out.ext hy); replace Nq := Lib.hid (Nq.out.ext hy); replace Dq := Lib.hid (Dq.out.ext hy); replace Nr := Lib.hid (Nr.out.ext hy); replace Dr := Lib.hid (Dr.out.ext hy); replace Nv := Lib.hid (Nv.out.ext hy); replace Dv := Lib.hid (Dv.out.ext hy); clear hy; rw [decide_eq_true (by exact ⟨rfl, rfl⟩)]
      refine hK.out _ _ ?_ (fun hHeld2 => ?_)
      · exact ⟨s0, s1, s2, s3, s4, s5, s6, s7, s8, s9, s10, s11, s12, s13, s14, s15, s16, s17, s18, s19⟩
      clear hK K hHeld
      have hHeld := hHeld2
      clear hHeld2
      (try simp only [Act.put, List.getElem_toArray, List.getElem_cons_succ, List.getElem_cons_zero, List.setIfInBounds_toArray, List.set_cons_zero, List.set_cons_succ])
      refine wpAnyH_take (i := 12) (oi := _) (v := ?_) rfl (by kernel_rfl) (by kernel_rfl) (by kernel_rfl) (fun _ _ _ h => h) (Or.inl ⟨by rfl, ?_⟩) (by assumption) ?_
      rotate_left
      · (intro w hSw; (try dsimp only at hSw); (try go_simp); (try with_reducible rfl))
      (try simp only [Act.put, List.getElem_toArray, List.getElem_cons_succ, List.getElem_cons_zero, List.setIfInBounds_toArray, List.set_cons_zero, List.set_cons_succ])
      refine wpAnyH_take (i := 13) (oi := _) (v := ?_) rfl (by kernel_rfl) (by kernel_rfl) (by kernel_rfl) (fun _ _ _ h => h) (Or.inl ⟨by rfl, ?_⟩) (by assumption) ?_
      rotate_left
      · (intro w hSw; (try dsimp only at hSw); (try go_simp); (try with_reducible rfl))
      (try simp only [Act.put, List.getElem_toArray, List.getElem_cons_succ, List.getElem_cons_zero, List.setIfInBounds_toArray, List.set_cons_zero, List.set_cons_succ])
      refine wpAnyH_take (i := 14) (oi := _) (v := ?_) rfl (by kernel_rfl) (by kernel_rfl) (by kernel_rfl) (fun _ _ _ h => h) (Or.inl ⟨by rfl, ?_⟩) (by assumption) ?_
      rotate_left
      · (intro w hSw; (try dsimp only at hSw); (try go_simp); (try with_reducible rfl))
      (try simp only [Act.put, List.getElem_toArray, List.getElem_cons_succ, List.getElem_cons_zero, List.setIfInBounds_toArray, List.set_cons_zero, List.set_cons_succ])
      refine wpAnyH_take (i := 15) (oi := _) (v := ?_) rfl (by kernel_rfl) (by kernel_rfl) (by kernel_rfl) (fun _ _ _ h => h) (Or.inl ⟨by rfl, ?_⟩) (by assumption) ?_
      rotate_left
      · (intro w hSw; (try dsimp only at hSw); (try go_simp); (try with_reducible rfl))
      (try simp only [Act.put, List.getElem_toArray, List.getElem_cons_succ, List.getElem_cons_zero, List.setIfInBounds_toArray, List.set_cons_zero, List.set_cons_succ])
      refine wpAnyH_take (i := 16) (oi := _) (v := ?_) rfl (by kernel_rfl) (by kernel_rfl) (by kernel_rfl) (fun _ _ _ h => h) (Or.inl ⟨by rfl, ?_⟩) (by assumption) ?_
      rotate_left
      · (intro w hSw; (try dsimp only at hSw); (try go_simp); (try with_reducible rfl))
      (try simp only [Act.put, List.getElem_toArray, List.getElem_cons_succ, List.getElem_cons_zero, List.setIfInBounds_toArray, List.set_cons_zero, List.set_cons_succ])
      refine wpAnyH_take (i := 17) (oi := _) (v := ?_) rfl (by kernel_rfl) (by kernel_rfl) (by kernel_rfl) (fun _ _ _ h => h) (Or.inl ⟨by rfl, ?_⟩) (by assumption) ?_
      rotate_left
      · (intro w hSw; (try dsimp only at hSw); (try go_simp); (try with_reducible rfl))
      (try simp only [Act.put, List.getElem_toArray, List.getElem_cons_succ, List.getElem_cons_zero, List.setIfInBounds_toArray, List.set_cons_zero, List.set_cons_succ])
      refine wpAnyH_take (i := 18) (oi := _) (v := ?_) rfl (by kernel_rfl) (by kernel_rfl) (by kernel_rfl) (fun _ _ _ h => h) (Or.inl ⟨by rfl, ?_⟩) (by assumption) ?_
      rotate_left
      · (intro w hSw; (try dsimp only at hSw); (try go_simp); (try with_reducible rfl))
      (try simp only [Act.put, List.getElem_toArray, List.getElem_cons_succ, List.getElem_cons_zero, List.setIfInBounds_toArray, List.set_cons_zero, List.set_cons_succ])
      refine wpAnyH_take (i := 19) (oi := _) (v := ?_) rfl (by kernel_rfl) (by kernel_rfl) (by kernel_rfl) (fun _ _ _ h => h) (Or.inl ⟨by rfl, ?_⟩) (by assumption) ?_
      rotate_left
      · (intro w hSw; (try dsimp only at hSw); (try go_simp); (try with_reducible rfl))
      (try simp only [Act.put, List.getElem_toArray, List.getElem_cons_succ, List.getElem_cons_zero, List.setIfInBounds_toArray, List.set_cons_zero, List.set_cons_succ])
      refine wpAnyH_take (i := 21) (oi := _) (v := ?_) rfl (by kernel_rfl) (by kernel_rfl) (by kernel_rfl) (fun _ _ _ h => h) (Or.inl ⟨by rfl, ?_⟩) (by assumption) ?_
      rotate_left
      · (intro w hSw; (try dsimp only at hSw); (try go_simp); (try with_reducible rfl))
      (try simp only [Act.put, List.getElem_toArray, List.getElem_cons_succ, List.getElem_cons_zero, List.setIfInBounds_toArray, List.set_cons_zero, List.set_cons_succ])
      refine wpAnyH_ready (rs := [20]) (by kernel_rfl) (by simp) ?_
      refine AllReadyH.cons (o := _) rfl (fun K hK => ?_) ?_
      · go_simp
        (with_reducible refine (HC1.out _ hx).mono ?_); rintro e x17 ⟨rfl, hy⟩; replace hE := hE.trans hy; replace hx := hx.trans hy; replace s0 := cell_exQ hy s0; replace s1 := cell_exQ hy s1; replace s2 := cell_exQ hy s2; replace s3 := cell_exQ hy s3; replace s4 := cell_exQ hy s4; replace s5 := cell_exQ hy s5; replace s6 := cell_exQ hy s6; replace s7 := cell_exQ hy s7; replace s8 := cell_exQ hy s8; replace s9 := cell_exQ hy s9; replace s10 := cell_exQ hy s10; replace s11 := cell_exQ hy s11; replace s12 := cell_exQ hy s12; replace s13 := cell_exQ hy s13; replace s14 := cell_exQ hy s14; replace s15 := cell_exQ hy s15; replace s16 := cell_exQ hy s16; replace s17 := cell_exQ hy s17; replace s18 := cell_exQ hy s18; replace s19 := cell_exQ hy s19; replace Kx := kE Kx hy; replace Kp := kE Kp hy; replace Kq := kE Kq hy; replace Kr := kE Kr hy; replace Kv := kE Kv hy; replace Np := Lib.hid (Np.out.ext hy); replace Dp := Lib.hid (Dp.out.ext hy); replace Nq := Lib.hid (Nq.out.ext hy); replace Dq := Lib.hid (Dq.out.ext hy); replace Nr := Lib.hid (Nr.out.ext hy); replace Dr := Lib.hid (Dr.out.ext hy); replace Nv := Lib.hid (Nv.out.ext hy); replace Dv := Lib.hid (Dv.out.ext hy); clear hy
        refine hK.out _ _ ?_ (fun hHeld2 => ?_)
        · exact ⟨s0, s1, s2, s3, s4, s5, s6, s7, s8, s9, s10, s11, s12, s13, s14, s15, s16, s17, s18, s19⟩
        clear hK K hHeld
        have hHeld := hHeld2
        clear hHeld2
        (try simp only [Act.put, List.getElem_toArray, List.getElem_cons_succ, List.getElem_cons_zero, List.setIfInBounds_toArray, List.set_cons_zero, List.set_cons_succ])
        refine wpAnyH_ready (rs := [22]) (by kernel_rfl) (by simp) ?_
        refine AllReadyH.cons (o := _) rfl (fun K hK => ?_) ?_
        · go_simp
          (with_reducible refine (HC2.out _ hx).mono ?_); rintro e x18 ⟨rfl, hy⟩; replace hE := hE.trans hy; replace hx := hx.trans hy; replace s0 := cell_exQ hy s0; replace s1 := cell_exQ hy s1; replace s2 := cell_exQ hy s2; replace s3 := cell_exQ hy s3; replace s4 := cell_exQ hy s4; replace s5 := cell_exQ hy s5; replace s6 := cell_exQ hy s6; replace s7 := cell_exQ hy s7; replace s8 := cell_exQ hy s8; replace s9 := cell_exQ hy s9; replace s10 := cell_exQ hy s10; replace s11 := cell_exQ hy s11; replace s12 := cell_exQ hy s12; replace s13 := cell_exQ hy s13; replace s14 := cell_exQ hy s14; replace s15 := cell_exQ hy s15; replace s16 := cell_exQ hy s16; replace s17 := cell_exQ hy s17; replace s18 := cell_exQ hy s18; replace s19 := cell_exQ hy s19; replace Kx := kE Kx hy; replace Kp := kE Kp hy; replace Kq := kE Kq hy; replace Kr := kE Kr hy; replace Kv := kE Kv hy; replace Np := Lib.hid (Np.out.ext hy); replace Dp := Lib.hid (Dp.out.ext hy); replace Nq := Lib.hid (Nq.out.ext hy); replace Dq := Lib.hid (Dq.out.ext hy); replace Nr := Lib.hid (Nr.out.ext hy); replace Dr := Lib.hid (Dr.out.ext hy); replace Nv := Lib.hid (Nv.out.ext hy); replace Dv := Lib.hid (Dv.out.ext hy); clear hy
          refine hK.out _ _ ?_ (fun hHeld2 => ?_)
          · exact ⟨s0, s1, s2, s3, s4, s5, s6, s7, s8, s9, s10, s11, s12, s13, s14, s15, s16, s17, s18, s19⟩
          clear hK K hHeld
          have hHeld := hHeld2
          clear hHeld2
          (try simp only [Act.put, List.getElem_toArray, List.getElem_cons_succ, List.getElem_cons_zero, List.setIfInBounds_toArray, List.set_cons_zero, List.set_cons_succ])
          refine wpAnyH_take (i := 23) (oi := _) (v := ?_) rfl (by kernel_rfl) (by kernel_rfl) (by kernel_rfl) (fun _ _ _ h => h) (Or.inl ⟨by rfl, ?_⟩) (by assumption) ?_
          rotate_left
          · (intro w hSw; (try dsimp only at hSw); (try go_simp); (try with_reducible rfl))
          (try simp only [Act.put, List.getElem_toArray, List.getElem_cons_succ, List.getElem_cons_zero, List.setIfInBounds_toArray, List.set_cons_zero, List.set_cons_succ])
          refine wpAnyH_take (i := 24) (oi := _) (v := ?_) rfl (by kernel_rfl) (by kernel_rfl) (by kernel_rfl) (fun _ _ _ h => h) (Or.inl ⟨by rfl, ?_⟩) (by assumption) ?_
          rotate_left
          · (intro w hSw; (try dsimp only at hSw); (try go_simp); (try with_reducible rfl))
          (try simp only [Act.put, List.getElem_toArray, List.getElem_cons_succ, List.getElem_cons_zero, List.setIfInBounds_toArray, List.set_cons_zero, List.set_cons_succ])
          refine wpAnyH_take (i := 25) (oi := _) (v := ?_) rfl (by kernel_rfl) (by kernel_rfl) (by kernel_rfl) (fun _ _ _ h => h) (Or.inl ⟨by rfl, ?_⟩) (by assumption) ?_
          rotate_left
          · (intro w hSw; (try dsimp only at hSw); (try go_simp); (try with_reducible rfl))
          (try simp only [Act.put, List.getElem_toArray, List.getElem_cons_succ, List.getElem_cons_zero, List.setIfInBounds_toArray, List.set_cons_zero, List.set_cons_succ])
          refine wpAnyH_done (by kernel_rfl) ?_ _
          go_wp2_with fail
          go_ret
          exact ⟨rfl, hx⟩
        exact AllReadyH.nil
      exact AllReadyH.nil
    exact AllReadyH.nil
  exact AllReadyH.nil
theorem law_MakeSpec (n d : Int) (hn : -9223372036854775808 ≤ n ∧ n ≤ 9223372036854775807) (hd : -9223372036854775808 ≤ d ∧ d ≤ 9223372036854775807) (n1 n2 : Bool) (a b : Option Addr) (ca cb : Nat) (l m : List Int) (x : RatA) (w : World) (ha : Ints w a ca l) (hb : Ints w b cb m) (hx1 : RatI w x) : Calls Tryz.prog 3 #[.int .i64 n, .int .i64 d, .agg #[.bool n1, .slice a l.length ca], .agg #[.bool n2, .slice b m.length cb], x.val] w fun e w' => e = .returned (.bool true) ∧ Ext w w' := by
  cases f0 : fewQ l.length 6
  · exact law_MakeSpec_f0 n d hn hd n1 n2 a b ca cb l m x w ha hb hx1 f0
  · cases f1 : fewQ m.length 6
    · exact law_MakeSpec_f1 n d hn hd n1 n2 a b ca cb l m x w ha hb hx1 f0 f1
    · cases f2 : fewR x
      · exact law_MakeSpec_f2 n d hn hd n1 n2 a b ca cb l m x w ha hb hx1 f0 f1 f2
      · exact law_MakeSpec_ok n d hn hd n1 n2 a b ca cb l m x w ha hb hx1 f0 f1 f2
end Go.Proofs.YtnpeakahiedeoaaGreatDoor
