import Derived.Test.YtnpeakahiedeoaaGreatDoorQ5
import Derived.Test.YtnpeakahiedeoaaGreatDoorQ4
import Derived.Deep.Cut
namespace Go.Proofs.YtnpeakahiedeoaaGreatDoor
open Go.RowKit Go BigFrame
set_option maxRecDepth 100000
set_option linter.unusedSimpArgs false
set_option linter.unusedVariables false

/-! ratio.Sub, Floor, Text. -/
set_option maxHeartbeats 4000000 in
theorem ratio_Sub_pos {v u : Value} {r s : Rat} {i j : Nat} {w : World} (hv : RatV w v r) (hu : RatV w u s) (hr : Sz r i) (hs : Sz s j) (hij : i + j + 1 ≤ 2048) (h0 : 0 < s) : Calls Tryz.prog 35 #[v, u] w (RatP (r - s) w) := by
  have L0 := Lib.hid (And.intro (hr.lenN (by omega)) (And.intro (hr.lenD (by omega)) (And.intro (hs.lenN (by omega)) (hs.lenD (by omega)))))
  have HS := Lib.hid (And.intro hr (And.intro hs.neg hij))
  obtain ⟨nx, ax, qx, cx, bx, kx, dx, rfl⟩ := hv.form
  obtain ⟨ny, ay, qy, cy, by_, ky, dy, rfl⟩ := hu.form
  obtain rfl : ny = false := by rw [hu.neg_iff]; exact decide_eq_false (Rat.not_lt.2 (Rat.le_of_lt h0))
  have hq : 0 < qy := Nat.pos_of_ne_zero (fun e => by have := hu.num_len.1 e; rw [this] at h0; exact Rat.lt_irrefl h0)
  have HQ := Lib.hid (And.intro hq hu.num.le)
  clear hq
  have Vx := Lib.hid hv
  have HY := Lib.hid (show RatV w (.agg #[.bool true, .slice ay qy cy, .bool false, .slice by_ ky dy]) (-s) from RatV.mk (by have h := hu.num.minus; rw [Rat.neg_num]; simpa [HQ.out.1] using h) (by rw [Rat.neg_den]; exact hu.den))
  have Vy := Lib.hid hu
  clear hv hu hr hs hij h0
  obtain ⟨x1, hw, hx, Kx, Ky, Kr, Ke⟩ := boxQ4 w #[.bool nx, .slice ax qx cx, .bool false, .slice bx kx dx] 26 #[.bool false, .slice ay qy cy, .bool false, .slice by_ ky dy] 26 #[.bool false, .slice none 0 0, .bool false, .slice none 0 0] 26 #[.int .i64 0] 30
  replace hw := Lib.hid hw
  have Vx := Lib.hid (Vx.out.ext hx)
  have Vy := Lib.hid (Vy.out.ext hx)
  have HY := Lib.hid (HY.out.ext hx)
  go_enter_defers Tryz.func35, Tryz.ntmps35
  go_upto_region 1 with fail
  try simp only [Nat.add_assoc, Nat.reduceAdd, Nat.add_zero]
  rw [hw.out]
  clear hw
  have hs0 := hx.size
  obtain ⟨cx0, cx1, cx2, cx3⟩ := bk4 Kx
  obtain ⟨cy0, cy1, cy2, cy3⟩ := bk4 Ky
  obtain ⟨cr0, cr1, cr2, cr3⟩ := bk4 Kr
  have ce0 := bk1 Ke
  have hl := Ext.alloc x1 (.cells #[.bool nx, .slice ax qx cx, .bool false, .slice bx kx dx, .bool false, .slice ay qy cy, .bool false, .slice by_ ky dy] 26)
  have hKK := Blk.new0 x1 #[.bool nx, .slice ax qx cx, .bool false, .slice bx kx dx, .bool false, .slice ay qy cy, .bool false, .slice by_ ky dy] 26
  have hlx := hx.trans hl
  have HTT := Lib.hid (valid2_val hKK (Vx.out.ext hl) (Vy.out.ext hl) L0.out.1 L0.out.2.1 L0.out.2.2.1 L0.out.2.2.2)
  clear hKK hlx
  go_wp2_with fail
  with_reducible refine (HTT.out).mono ?_
  clear cx0 cx1 cx2 cx3 cy0 cy1 cy2 cy3 cr0 cr1 cr2 cr3 ce0
  rintro e x2 ⟨rfl, hy⟩
  replace hy := hl.trans hy
  replace hx := hx.trans hy
  replace Kx := kE Kx hy
  replace Ky := kE Ky hy
  replace Kr := kE Kr hy
  replace Ke := kE Ke hy
  replace Vx := Lib.hid (Vx.out.ext hy)
  replace Vy := Lib.hid (Vy.out.ext hy)
  replace HY := Lib.hid (HY.out.ext hy)
  clear hy HTT hl
  clear Vy
  have t1 : decide ((0 : Int) < (qy : Int)) = true := by have := HQ.out.1; simp; omega
  have t2 : decide (0 < qy) = true := by simpa using t1
  have hqm := HQ.out.2
  obtain ⟨cx0, cx1, cx2, cx3⟩ := bk4 Kx
  obtain ⟨cy0, cy1, cy2, cy3⟩ := bk4 Ky
  obtain ⟨cr0, cr1, cr2, cr3⟩ := bk4 Kr
  have ce0 := bk1 Ke
  have g0 := (Ky.out).cell (i := 0) (v := .bool false) rfl
  have z0 := (Ky.out).free 0
  go_upto_region 4 with fail
  clear g0 z0
  clear cx0 cx1 cx2 cx3 cy0 cy1 cy2 cy3 cr0 cr1 cr2 cr3 ce0
  replace Vx := Lib.hid (Vx.out.put Ky.out (noInt_of rfl) 0 (.bool true))
  replace HY := Lib.hid (HY.out.put Ky.out (noInt_of rfl) 0 (.bool true))
  replace hx := hx.set (p := ⟨w.heap.size + 1, 0, none⟩) (by dsimp only; omega) (.bool true)
  replace Kx := Lib.hid (Kx.out.other (p := ⟨w.heap.size + 1, 0, none⟩) (by dsimp only; omega) (.bool true))
  replace Ky := Lib.hid (Ky.out.set 0 (.bool true))
  replace Kr := Lib.hid (Kr.out.other (p := ⟨w.heap.size + 1, 0, none⟩) (by dsimp only; omega) (.bool true))
  replace Ke := Lib.hid (Ke.out.other (p := ⟨w.heap.size + 1, 0, none⟩) (by dsimp only; omega) (.bool true))
  replace Ky := Lib.hid (show Blk _ _ #[.bool true, .slice ay qy cy, .bool false, .slice by_ ky dy] 26 from Ky.out)
  generalize (x2).setCell ⟨w.heap.size + 1, 0, none⟩ (.bool true) = x3 at *
  obtain ⟨cx0, cx1, cx2, cx3⟩ := bk4 Kx
  obtain ⟨cy0, cy1, cy2, cy3⟩ := bk4 Ky
  obtain ⟨cr0, cr1, cr2, cr3⟩ := bk4 Kr
  have ce0 := bk1 Ke
  have hsz := hx.size
  go_wp2_with fail
  with_reducible refine (ratio_Add Vx.out HY.out HS.out.1 HS.out.2.1 HS.out.2.2).mono ?_
  clear cx0 cx1 cx2 cx3 cy0 cy1 cy2 cy3 cr0 cr1 cr2 cr3 ce0
  rintro e x4 ⟨v, rfl, hv, hy⟩
  replace hx := hx.trans hy
  replace Kx := kE Kx hy
  replace Ky := kE Ky hy
  replace Kr := kE Kr hy
  replace Ke := kE Ke hy
  replace Vx := Lib.hid (Vx.out.ext hy)
  replace HY := Lib.hid (HY.out.ext hy)
  clear hy
  rw [← Rat.sub_eq_add_neg] at hv
  obtain ⟨nv, av, qv, cv, bv, kv, dv, rfl, hv', hf', hg'⟩ := hv
  have Vv := Lib.hid hv'
  have Fv := Lib.hid (fun A hA => Nat.le_trans hsz (hf' A hA))
  have Gv := Lib.hid (fun A hA => Nat.le_trans hsz (hg' A hA))
  clear hv' hf' hg' hsz
  clear Vx HY
  clear Kx Ky
  obtain ⟨cr0, cr1, cr2, cr3⟩ := bk4 Kr
  have ce0 := bk1 Ke
  obtain ⟨g0, z0, g1, z1, g2, z2, g3, z3⟩ := bp4 Kr (.bool nv) (.slice av qv cv) (.bool false) (.slice bv kv dv)
  obtain ⟨g4, z4⟩ := bp1 (bo4 Ke (w.heap.size + 2) (.bool nv) (.slice av qv cv) (.bool false) (.slice bv kv dv) (by omega)) (.int .i64 0)
  go_wp2_with fail
  clear g0 z0 g1 z1 g2 z2 g3 z3 g4 z4
  clear cr0 cr1 cr2 cr3 ce0
  replace Vv := (by first | exact rv4 Vv Kr (.bool nv) (.slice av qv cv) (.bool false) (.slice bv kv dv) rfl rfl rfl rfl | exact bv4 Vv Kr (.bool nv) (.slice av qv cv) (.bool false) (.slice bv kv dv) rfl rfl rfl rfl)
  replace hx := bx4 hx (w.heap.size + 2) (.bool nv) (.slice av qv cv) (.bool false) (.slice bv kv dv) (by omega)
  replace Kr := bs4 Kr (.bool nv) (.slice av qv cv) (.bool false) (.slice bv kv dv)
  replace Ke := bo4 Ke (w.heap.size + 2) (.bool nv) (.slice av qv cv) (.bool false) (.slice bv kv dv) (by omega)
  replace Vv := (by first | exact rv1 Vv Ke (.int .i64 0) rfl | exact bv1 Vv Ke (.int .i64 0) rfl)
  replace hx := bx1 hx (w.heap.size + 3) (.int .i64 0) (by omega)
  replace Kr := bo1 Kr (w.heap.size + 3) (.int .i64 0) (by omega)
  replace Ke := bs1 Ke (.int .i64 0)
  generalize (((((x4).setCell ⟨w.heap.size + 2, 0, none⟩ (.bool nv)).setCell ⟨w.heap.size + 2, 1, none⟩ (.slice av qv cv)).setCell ⟨w.heap.size + 2, 2, none⟩ (.bool false)).setCell ⟨w.heap.size + 2, 3, none⟩ (.slice bv kv dv)).setCell ⟨w.heap.size + 3, 0, none⟩ (.int .i64 0) = x5 at *
  obtain ⟨cr0, cr1, cr2, cr3⟩ := bk4 Kr
  have ce0 := bk1 Ke
  refine leaves_cons (f := 49) (args := #[.pointer (some ⟨w.heap.size + 3, 0, none⟩)]) (by simp) (by simp [go_sem]) ?_
  refine (ratio_caught_idle ⟨w.heap.size + 3, 0, none⟩ _).mono ?_
  rintro e u' w'' ⟨rfl, rfl, rfl⟩
  simp [Leaves, settle, results, Tryz.results35, go_sem, cr0, cr1, cr2, cr3, ce0]
  exact ⟨_, rfl, ⟨_, _, _, _, _, _, _, rfl, Vv.out, Fv.out, Gv.out⟩, hx⟩
set_option maxHeartbeats 4000000 in
theorem ratio_Sub_zero {v u : Value} {r s : Rat} {i j : Nat} {w : World} (hv : RatV w v r) (hu : RatV w u s) (hr : Sz r i) (hs : Sz s j) (hij : i + j + 1 ≤ 2048) (h0 : s = 0) : Calls Tryz.prog 35 #[v, u] w (RatP (r - s) w) := by
  have L0 := Lib.hid (And.intro (hr.lenN (by omega)) (And.intro (hr.lenD (by omega)) (And.intro (hs.lenN (by omega)) (hs.lenD (by omega)))))
  have HS := Lib.hid (And.intro hr (And.intro hs.neg hij))
  obtain ⟨nx, ax, qx, cx, bx, kx, dx, rfl⟩ := hv.form
  obtain ⟨ny, ay, qy, cy, by_, ky, dy, rfl⟩ := hu.form
  obtain rfl : ny = false := by rw [hu.neg_iff]; rw [h0]; rfl
  obtain rfl : qy = 0 := hu.num_len.2 h0
  have Vx := Lib.hid hv
  have HY := Lib.hid (show RatV w (.agg #[.bool false, .slice ay 0 cy, .bool false, .slice by_ ky dy]) (-s) from RatV.mk (by have h := hu.num.minus; rw [Rat.neg_num]; simpa using h) (by rw [Rat.neg_den]; exact hu.den))
  have Vy := Lib.hid hu
  clear hv hu hr hs hij h0
  obtain ⟨x1, hw, hx, Kx, Ky, Kr, Ke⟩ := boxQ4 w #[.bool nx, .slice ax qx cx, .bool false, .slice bx kx dx] 26 #[.bool false, .slice ay 0 cy, .bool false, .slice by_ ky dy] 26 #[.bool false, .slice none 0 0, .bool false, .slice none 0 0] 26 #[.int .i64 0] 30
  replace hw := Lib.hid hw
  have Vx := Lib.hid (Vx.out.ext hx)
  have Vy := Lib.hid (Vy.out.ext hx)
  have HY := Lib.hid (HY.out.ext hx)
  go_enter_defers Tryz.func35, Tryz.ntmps35
  go_upto_region 1 with fail
  try simp only [Nat.add_assoc, Nat.reduceAdd, Nat.add_zero]
  rw [hw.out]
  clear hw
  have hs0 := hx.size
  obtain ⟨cx0, cx1, cx2, cx3⟩ := bk4 Kx
  obtain ⟨cy0, cy1, cy2, cy3⟩ := bk4 Ky
  obtain ⟨cr0, cr1, cr2, cr3⟩ := bk4 Kr
  have ce0 := bk1 Ke
  have hl := Ext.alloc x1 (.cells #[.bool nx, .slice ax qx cx, .bool false, .slice bx kx dx, .bool false, .slice ay 0 cy, .bool false, .slice by_ ky dy] 26)
  have hKK := Blk.new0 x1 #[.bool nx, .slice ax qx cx, .bool false, .slice bx kx dx, .bool false, .slice ay 0 cy, .bool false, .slice by_ ky dy] 26
  have hlx := hx.trans hl
  have HTT := Lib.hid (valid2_val hKK (Vx.out.ext hl) (Vy.out.ext hl) L0.out.1 L0.out.2.1 L0.out.2.2.1 L0.out.2.2.2)
  clear hKK hlx
  go_wp2_with fail
  with_reducible refine (HTT.out).mono ?_
  clear cx0 cx1 cx2 cx3 cy0 cy1 cy2 cy3 cr0 cr1 cr2 cr3 ce0
  rintro e x2 ⟨rfl, hy⟩
  replace hy := hl.trans hy
  replace hx := hx.trans hy
  replace Kx := kE Kx hy
  replace Ky := kE Ky hy
  replace Kr := kE Kr hy
  replace Ke := kE Ke hy
  replace Vx := Lib.hid (Vx.out.ext hy)
  replace Vy := Lib.hid (Vy.out.ext hy)
  replace HY := Lib.hid (HY.out.ext hy)
  clear hy HTT hl
  clear Vy
  obtain ⟨cx0, cx1, cx2, cx3⟩ := bk4 Kx
  obtain ⟨cy0, cy1, cy2, cy3⟩ := bk4 Ky
  obtain ⟨cr0, cr1, cr2, cr3⟩ := bk4 Kr
  have ce0 := bk1 Ke
  have g0 := (Ky.out).cell (i := 0) (v := .bool false) rfl
  have z0 := (Ky.out).free 0
  go_upto_region 4 with fail
  clear g0 z0
  clear cx0 cx1 cx2 cx3 cy0 cy1 cy2 cy3 cr0 cr1 cr2 cr3 ce0
  replace Vx := Lib.hid (Vx.out.put Ky.out (noInt_of rfl) 0 (.bool false))
  replace HY := Lib.hid (HY.out.put Ky.out (noInt_of rfl) 0 (.bool false))
  replace hx := hx.set (p := ⟨w.heap.size + 1, 0, none⟩) (by dsimp only; omega) (.bool false)
  replace Kx := Lib.hid (Kx.out.other (p := ⟨w.heap.size + 1, 0, none⟩) (by dsimp only; omega) (.bool false))
  replace Ky := Lib.hid (Ky.out.set 0 (.bool false))
  replace Kr := Lib.hid (Kr.out.other (p := ⟨w.heap.size + 1, 0, none⟩) (by dsimp only; omega) (.bool false))
  replace Ke := Lib.hid (Ke.out.other (p := ⟨w.heap.size + 1, 0, none⟩) (by dsimp only; omega) (.bool false))
  replace Ky := Lib.hid (show Blk _ _ #[.bool false, .slice ay 0 cy, .bool false, .slice by_ ky dy] 26 from Ky.out)
  generalize (x2).setCell ⟨w.heap.size + 1, 0, none⟩ (.bool false) = x3 at *
  obtain ⟨cx0, cx1, cx2, cx3⟩ := bk4 Kx
  obtain ⟨cy0, cy1, cy2, cy3⟩ := bk4 Ky
  obtain ⟨cr0, cr1, cr2, cr3⟩ := bk4 Kr
  have ce0 := bk1 Ke
  have hsz := hx.size
  go_wp2_with fail
  with_reducible refine (ratio_Add Vx.out HY.out HS.out.1 HS.out.2.1 HS.out.2.2).mono ?_
  clear cx0 cx1 cx2 cx3 cy0 cy1 cy2 cy3 cr0 cr1 cr2 cr3 ce0
  rintro e x4 ⟨v, rfl, hv, hy⟩
  replace hx := hx.trans hy
  replace Kx := kE Kx hy
  replace Ky := kE Ky hy
  replace Kr := kE Kr hy
  replace Ke := kE Ke hy
  replace Vx := Lib.hid (Vx.out.ext hy)
  replace HY := Lib.hid (HY.out.ext hy)
  clear hy
  rw [← Rat.sub_eq_add_neg] at hv
  obtain ⟨nv, av, qv, cv, bv, kv, dv, rfl, hv', hf', hg'⟩ := hv
  have Vv := Lib.hid hv'
  have Fv := Lib.hid (fun A hA => Nat.le_trans hsz (hf' A hA))
  have Gv := Lib.hid (fun A hA => Nat.le_trans hsz (hg' A hA))
  clear hv' hf' hg' hsz
  clear Vx HY
  clear Kx Ky
  obtain ⟨cr0, cr1, cr2, cr3⟩ := bk4 Kr
  have ce0 := bk1 Ke
  obtain ⟨g0, z0, g1, z1, g2, z2, g3, z3⟩ := bp4 Kr (.bool nv) (.slice av qv cv) (.bool false) (.slice bv kv dv)
  obtain ⟨g4, z4⟩ := bp1 (bo4 Ke (w.heap.size + 2) (.bool nv) (.slice av qv cv) (.bool false) (.slice bv kv dv) (by omega)) (.int .i64 0)
  go_wp2_with fail
  clear g0 z0 g1 z1 g2 z2 g3 z3 g4 z4
  clear cr0 cr1 cr2 cr3 ce0
  replace Vv := (by first | exact rv4 Vv Kr (.bool nv) (.slice av qv cv) (.bool false) (.slice bv kv dv) rfl rfl rfl rfl | exact bv4 Vv Kr (.bool nv) (.slice av qv cv) (.bool false) (.slice bv kv dv) rfl rfl rfl rfl)
  replace hx := bx4 hx (w.heap.size + 2) (.bool nv) (.slice av qv cv) (.bool false) (.slice bv kv dv) (by omega)
  replace Kr := bs4 Kr (.bool nv) (.slice av qv cv) (.bool false) (.slice bv kv dv)
  replace Ke := bo4 Ke (w.heap.size + 2) (.bool nv) (.slice av qv cv) (.bool false) (.slice bv kv dv) (by omega)
  replace Vv := (by first | exact rv1 Vv Ke (.int .i64 0) rfl | exact bv1 Vv Ke (.int .i64 0) rfl)
  replace hx := bx1 hx (w.heap.size + 3) (.int .i64 0) (by omega)
  replace Kr := bo1 Kr (w.heap.size + 3) (.int .i64 0) (by omega)
  replace Ke := bs1 Ke (.int .i64 0)
  generalize (((((x4).setCell ⟨w.heap.size + 2, 0, none⟩ (.bool nv)).setCell ⟨w.heap.size + 2, 1, none⟩ (.slice av qv cv)).setCell ⟨w.heap.size + 2, 2, none⟩ (.bool false)).setCell ⟨w.heap.size + 2, 3, none⟩ (.slice bv kv dv)).setCell ⟨w.heap.size + 3, 0, none⟩ (.int .i64 0) = x5 at *
  obtain ⟨cr0, cr1, cr2, cr3⟩ := bk4 Kr
  have ce0 := bk1 Ke
  refine leaves_cons (f := 49) (args := #[.pointer (some ⟨w.heap.size + 3, 0, none⟩)]) (by simp) (by simp [go_sem]) ?_
  refine (ratio_caught_idle ⟨w.heap.size + 3, 0, none⟩ _).mono ?_
  rintro e u' w'' ⟨rfl, rfl, rfl⟩
  simp [Leaves, settle, results, Tryz.results35, go_sem, cr0, cr1, cr2, cr3, ce0]
  exact ⟨_, rfl, ⟨_, _, _, _, _, _, _, rfl, Vv.out, Fv.out, Gv.out⟩, hx⟩
set_option maxHeartbeats 4000000 in
theorem ratio_Sub_neg {v u : Value} {r s : Rat} {i j : Nat} {w : World} (hv : RatV w v r) (hu : RatV w u s) (hr : Sz r i) (hs : Sz s j) (hij : i + j + 1 ≤ 2048) (h0 : s < 0) : Calls Tryz.prog 35 #[v, u] w (RatP (r - s) w) := by
  have L0 := Lib.hid (And.intro (hr.lenN (by omega)) (And.intro (hr.lenD (by omega)) (And.intro (hs.lenN (by omega)) (hs.lenD (by omega)))))
  have HS := Lib.hid (And.intro hr (And.intro hs.neg hij))
  obtain ⟨nx, ax, qx, cx, bx, kx, dx, rfl⟩ := hv.form
  obtain ⟨ny, ay, qy, cy, by_, ky, dy, rfl⟩ := hu.form
  obtain rfl : ny = true := by rw [hu.neg_iff]; exact decide_eq_true h0
  have Vx := Lib.hid hv
  have HY := Lib.hid (show RatV w (.agg #[.bool false, .slice ay qy cy, .bool false, .slice by_ ky dy]) (-s) from RatV.mk (by have h := hu.num.minus; rw [Rat.neg_num]; simpa using h) (by rw [Rat.neg_den]; exact hu.den))
  have Vy := Lib.hid hu
  clear hv hu hr hs hij h0
  obtain ⟨x1, hw, hx, Kx, Ky, Kr, Ke⟩ := boxQ4 w #[.bool nx, .slice ax qx cx, .bool false, .slice bx kx dx] 26 #[.bool true, .slice ay qy cy, .bool false, .slice by_ ky dy] 26 #[.bool false, .slice none 0 0, .bool false, .slice none 0 0] 26 #[.int .i64 0] 30
  replace hw := Lib.hid hw
  have Vx := Lib.hid (Vx.out.ext hx)
  have Vy := Lib.hid (Vy.out.ext hx)
  have HY := Lib.hid (HY.out.ext hx)
  go_enter_defers Tryz.func35, Tryz.ntmps35
  go_upto_region 1 with fail
  try simp only [Nat.add_assoc, Nat.reduceAdd, Nat.add_zero]
  rw [hw.out]
  clear hw
  have hs0 := hx.size
  obtain ⟨cx0, cx1, cx2, cx3⟩ := bk4 Kx
  obtain ⟨cy0, cy1, cy2, cy3⟩ := bk4 Ky
  obtain ⟨cr0, cr1, cr2, cr3⟩ := bk4 Kr
  have ce0 := bk1 Ke
  have hl := Ext.alloc x1 (.cells #[.bool nx, .slice ax qx cx, .bool false, .slice bx kx dx, .bool true, .slice ay qy cy, .bool false, .slice by_ ky dy] 26)
  have hKK := Blk.new0 x1 #[.bool nx, .slice ax qx cx, .bool false, .slice bx kx dx, .bool true, .slice ay qy cy, .bool false, .slice by_ ky dy] 26
  have hlx := hx.trans hl
  have HTT := Lib.hid (valid2_val hKK (Vx.out.ext hl) (Vy.out.ext hl) L0.out.1 L0.out.2.1 L0.out.2.2.1 L0.out.2.2.2)
  clear hKK hlx
  go_wp2_with fail
  with_reducible refine (HTT.out).mono ?_
  clear cx0 cx1 cx2 cx3 cy0 cy1 cy2 cy3 cr0 cr1 cr2 cr3 ce0
  rintro e x2 ⟨rfl, hy⟩
  replace hy := hl.trans hy
  replace hx := hx.trans hy
  replace Kx := kE Kx hy
  replace Ky := kE Ky hy
  replace Kr := kE Kr hy
  replace Ke := kE Ke hy
  replace Vx := Lib.hid (Vx.out.ext hy)
  replace Vy := Lib.hid (Vy.out.ext hy)
  replace HY := Lib.hid (HY.out.ext hy)
  clear hy HTT hl
  clear Vy
  obtain ⟨cx0, cx1, cx2, cx3⟩ := bk4 Kx
  obtain ⟨cy0, cy1, cy2, cy3⟩ := bk4 Ky
  obtain ⟨cr0, cr1, cr2, cr3⟩ := bk4 Kr
  have ce0 := bk1 Ke
  have g0 := (Ky.out).cell (i := 0) (v := .bool true) rfl
  have z0 := (Ky.out).free 0
  go_upto_region 4 with fail
  clear g0 z0
  clear cx0 cx1 cx2 cx3 cy0 cy1 cy2 cy3 cr0 cr1 cr2 cr3 ce0
  replace Vx := Lib.hid (Vx.out.put Ky.out (noInt_of rfl) 0 (.bool false))
  replace HY := Lib.hid (HY.out.put Ky.out (noInt_of rfl) 0 (.bool false))
  replace hx := hx.set (p := ⟨w.heap.size + 1, 0, none⟩) (by dsimp only; omega) (.bool false)
  replace Kx := Lib.hid (Kx.out.other (p := ⟨w.heap.size + 1, 0, none⟩) (by dsimp only; omega) (.bool false))
  replace Ky := Lib.hid (Ky.out.set 0 (.bool false))
  replace Kr := Lib.hid (Kr.out.other (p := ⟨w.heap.size + 1, 0, none⟩) (by dsimp only; omega) (.bool false))
  replace Ke := Lib.hid (Ke.out.other (p := ⟨w.heap.size + 1, 0, none⟩) (by dsimp only; omega) (.bool false))
  replace Ky := Lib.hid (show Blk _ _ #[.bool false, .slice ay qy cy, .bool false, .slice by_ ky dy] 26 from Ky.out)
  generalize (x2).setCell ⟨w.heap.size + 1, 0, none⟩ (.bool false) = x3 at *
  obtain ⟨cx0, cx1, cx2, cx3⟩ := bk4 Kx
  obtain ⟨cy0, cy1, cy2, cy3⟩ := bk4 Ky
  obtain ⟨cr0, cr1, cr2, cr3⟩ := bk4 Kr
  have ce0 := bk1 Ke
  have hsz := hx.size
  go_wp2_with fail
  with_reducible refine (ratio_Add Vx.out HY.out HS.out.1 HS.out.2.1 HS.out.2.2).mono ?_
  clear cx0 cx1 cx2 cx3 cy0 cy1 cy2 cy3 cr0 cr1 cr2 cr3 ce0
  rintro e x4 ⟨v, rfl, hv, hy⟩
  replace hx := hx.trans hy
  replace Kx := kE Kx hy
  replace Ky := kE Ky hy
  replace Kr := kE Kr hy
  replace Ke := kE Ke hy
  replace Vx := Lib.hid (Vx.out.ext hy)
  replace HY := Lib.hid (HY.out.ext hy)
  clear hy
  rw [← Rat.sub_eq_add_neg] at hv
  obtain ⟨nv, av, qv, cv, bv, kv, dv, rfl, hv', hf', hg'⟩ := hv
  have Vv := Lib.hid hv'
  have Fv := Lib.hid (fun A hA => Nat.le_trans hsz (hf' A hA))
  have Gv := Lib.hid (fun A hA => Nat.le_trans hsz (hg' A hA))
  clear hv' hf' hg' hsz
  clear Vx HY
  clear Kx Ky
  obtain ⟨cr0, cr1, cr2, cr3⟩ := bk4 Kr
  have ce0 := bk1 Ke
  obtain ⟨g0, z0, g1, z1, g2, z2, g3, z3⟩ := bp4 Kr (.bool nv) (.slice av qv cv) (.bool false) (.slice bv kv dv)
  obtain ⟨g4, z4⟩ := bp1 (bo4 Ke (w.heap.size + 2) (.bool nv) (.slice av qv cv) (.bool false) (.slice bv kv dv) (by omega)) (.int .i64 0)
  go_wp2_with fail
  clear g0 z0 g1 z1 g2 z2 g3 z3 g4 z4
  clear cr0 cr1 cr2 cr3 ce0
  replace Vv := (by first | exact rv4 Vv Kr (.bool nv) (.slice av qv cv) (.bool false) (.slice bv kv dv) rfl rfl rfl rfl | exact bv4 Vv Kr (.bool nv) (.slice av qv cv) (.bool false) (.slice bv kv dv) rfl rfl rfl rfl)
  replace hx := bx4 hx (w.heap.size + 2) (.bool nv) (.slice av qv cv) (.bool false) (.slice bv kv dv) (by omega)
  replace Kr := bs4 Kr (.bool nv) (.slice av qv cv) (.bool false) (.slice bv kv dv)
  replace Ke := bo4 Ke (w.heap.size + 2) (.bool nv) (.slice av qv cv) (.bool false) (.slice bv kv dv) (by omega)
  replace Vv := (by first | exact rv1 Vv Ke (.int .i64 0) rfl | exact bv1 Vv Ke (.int .i64 0) rfl)
  replace hx := bx1 hx (w.heap.size + 3) (.int .i64 0) (by omega)
  replace Kr := bo1 Kr (w.heap.size + 3) (.int .i64 0) (by omega)
  replace Ke := bs1 Ke (.int .i64 0)
  generalize (((((x4).setCell ⟨w.heap.size + 2, 0, none⟩ (.bool nv)).setCell ⟨w.heap.size + 2, 1, none⟩ (.slice av qv cv)).setCell ⟨w.heap.size + 2, 2, none⟩ (.bool false)).setCell ⟨w.heap.size + 2, 3, none⟩ (.slice bv kv dv)).setCell ⟨w.heap.size + 3, 0, none⟩ (.int .i64 0) = x5 at *
  obtain ⟨cr0, cr1, cr2, cr3⟩ := bk4 Kr
  have ce0 := bk1 Ke
  refine leaves_cons (f := 49) (args := #[.pointer (some ⟨w.heap.size + 3, 0, none⟩)]) (by simp) (by simp [go_sem]) ?_
  refine (ratio_caught_idle ⟨w.heap.size + 3, 0, none⟩ _).mono ?_
  rintro e u' w'' ⟨rfl, rfl, rfl⟩
  simp [Leaves, settle, results, Tryz.results35, go_sem, cr0, cr1, cr2, cr3, ce0]
  exact ⟨_, rfl, ⟨_, _, _, _, _, _, _, rfl, Vv.out, Fv.out, Gv.out⟩, hx⟩
theorem ratio_Sub {v u : Value} {r s : Rat} {i j : Nat} {w : World} (hv : RatV w v r) (hu : RatV w u s) (hr : Sz r i) (hs : Sz s j) (hij : i + j + 1 ≤ 2048) : Calls Tryz.prog 35 #[v, u] w (RatP (r - s) w) := by
  by_cases h0 : s = 0
  · exact ratio_Sub_zero hv hu hr hs hij h0
  · by_cases h1 : s < 0
    · exact ratio_Sub_neg hv hu hr hs hij h1
    · exact ratio_Sub_pos hv hu hr hs hij (Rat.lt_of_le_of_ne (Rat.not_lt.1 h1) (fun e => h0 e.symm))
set_option maxHeartbeats 2000000 in
theorem ratio_Floor {v : Value} {r : Rat} {i : Nat} {w : World} (hv : RatV w v r) (hr : Sz r i) (hi : i ≤ 2048) : Calls Tryz.prog 25 #[v] w (OneP (r.num / (r.den : Int)) w) := by
  have L0 := Lib.hid (And.intro (hr.lenN hi) (hr.lenD hi))
  obtain ⟨nx, ax, qx, cx, bx, kx, dx, rfl⟩ := hv.form
  have Vx := Lib.hid hv
  clear hv hr hi
  obtain ⟨x1, hw, hx, Kx, Kn, Ke⟩ := boxQ3 w #[.bool nx, .slice ax qx cx, .bool false, .slice bx kx dx] 26 #[.bool false, .slice none 0 0] 24 #[.int .i64 0] 30
  replace hw := Lib.hid hw
  have Vx := Lib.hid (Vx.out.ext hx)
  go_enter_defers Tryz.func25, Tryz.ntmps25
  go_upto_region 1 with fail
  try simp only [Nat.add_assoc, Nat.reduceAdd, Nat.add_zero]
  rw [hw.out]
  clear hw
  have hs0 := hx.size
  obtain ⟨cx0, cx1, cx2, cx3⟩ := bk4 Kx
  obtain ⟨cn0, cn1⟩ := bk2 Kn
  have ce0 := bk1 Ke
  have hl := Ext.alloc x1 (.cells #[.bool nx, .slice ax qx cx, .bool false, .slice bx kx dx] 26)
  have hKK := Blk.new0 x1 #[.bool nx, .slice ax qx cx, .bool false, .slice bx kx dx] 26
  have hlx := hx.trans hl
  have HTT := Lib.hid (valid1_val hKK (Vx.out.ext hl) L0.out.1 L0.out.2)
  clear hKK hlx
  go_wp2_with fail
  with_reducible refine (HTT.out).mono ?_
  clear cx0 cx1 cx2 cx3 cn0 cn1 ce0
  rintro e x2 ⟨rfl, hy⟩
  replace hy := hl.trans hy
  replace hx := hx.trans hy
  replace Kx := kE Kx hy
  replace Kn := kE Kn hy
  replace Ke := kE Ke hy
  replace Vx := Lib.hid (Vx.out.ext hy)
  clear hy HTT hl
  obtain ⟨cx0, cx1, cx2, cx3⟩ := bk4 Kx
  obtain ⟨cn0, cn1⟩ := bk2 Kn
  have ce0 := bk1 Ke
  have hsz := hx.size
  go_wp2_with fail
  with_reducible refine (div_any Vx.out.num Vx.out.den L0.out.1 L0.out.2 (Int.ne_of_gt (rat_den_pos r))).mono ?_
  clear cx0 cx1 cx2 cx3 cn0 cn1 ce0
  rintro e x3 ⟨v, u, rfl, hv, hu, hy⟩
  replace hx := hx.trans hy
  replace Kx := kE Kx hy
  replace Kn := kE Kn hy
  replace Ke := kE Ke hy
  replace Vx := Lib.hid (Vx.out.ext hy)
  clear hy
  obtain ⟨nq, aq, qq, cq, rfl, hv', hf'⟩ := hv.two
  have Vq := Lib.hid hv'
  have Fq := Lib.hid (fun A hA => Nat.le_trans hsz (hf' A hA))
  clear hv' hf' hsz
  obtain ⟨nf, af, qf, cf, rfl⟩ := hu.form
  have Vf := Lib.hid hu
  clear hu
  clear Vx
  clear Kx
  obtain ⟨cn0, cn1⟩ := bk2 Kn
  have ce0 := bk1 Ke
  have lue : w.heap.size + 2 < Array.size (World.heap x3) := Ke.out.lt
  have g0 := (((Ke.out).alloc (.cells #[.bool nq, .slice aq qq cq] 24)).alloc (.cells #[.bool nf, .slice af qf cf] 24)).cell (i := 0) (v := .int .i64 0) rfl
  have z0 := (((Ke.out).alloc (.cells #[.bool nq, .slice aq qq cq] 24)).alloc (.cells #[.bool nf, .slice af qf cf] 24)).free 0
  go_upto_region 4 with fail
  clear g0 z0
  clear cn0 cn1 ce0
  replace Vq := (by first | exact rv1 Vq Ke (.int .i64 0) rfl | exact bv1 Vq Ke (.int .i64 0) rfl)
  replace Vf := (by first | exact rv1 Vf Ke (.int .i64 0) rfl | exact bv1 Vf Ke (.int .i64 0) rfl)
  replace hx := bx1 hx (w.heap.size + 2) (.int .i64 0) (by omega)
  replace Kn := bo1 Kn (w.heap.size + 2) (.int .i64 0) (by omega)
  replace Ke := bs1 Ke (.int .i64 0)
  have hz : Array.size (World.heap ((x3).setCell ⟨w.heap.size + 2, 0, none⟩ (.int .i64 0))) = Array.size (World.heap x3) := by simp
  generalize (x3).setCell ⟨w.heap.size + 2, 0, none⟩ (.int .i64 0) = x4 at *
  generalize Array.size (World.heap x3) = sz at *
  subst hz
  have hl : Ext x4 ((x4.alloc (.cells #[.bool nq, .slice aq qq cq] 24)).alloc (.cells #[.bool nf, .slice af qf cf] 24)) := (Ext.alloc _ _).alloc' _
  have lnq : w.heap.size + 1 < x4.heap.size := Kn.out.lt
  have leq : w.heap.size + 2 < x4.heap.size := Ke.out.lt
  have hpq : w.heap.size ≤ x4.heap.size := hx.size
  replace hx := hx.trans hl
  replace Kn := kE Kn hl
  replace Ke := kE Ke hl
  replace Vq := Lib.hid (Vq.out.ext hl)
  replace Vf := Lib.hid (Vf.out.ext hl)
  have Kq := Lib.hid ((Blk.new0 x4 #[.bool nq, .slice aq qq cq] 24).alloc (.cells #[.bool nf, .slice af qf cf] 24))
  have Kf := Lib.hid (Blk.new1 x4 (.cells #[.bool nq, .slice aq qq cq] 24) #[.bool nf, .slice af qf cf] 24)
  clear hl
  generalize (x4.alloc (.cells #[.bool nq, .slice aq qq cq] 24)).alloc (.cells #[.bool nf, .slice af qf cf] 24) = x5 at *
  generalize x4.heap.size = pq at *
  go_upto_region 4 with fail
  have hs1 := hx.size
  have hq1 : w.heap.size + 2 < pq := leq
  have s0 : World.cell? x5 ⟨pq, 0, none⟩ = some (.bool nq) := Kq.out.cell (i := 0) rfl
  have s1 : World.cell? x5 ⟨pq, 1, none⟩ = some (.slice aq qq cq) := Kq.out.cell (i := 1) rfl
  have s2 : World.cell? x5 ⟨w.heap.size + 2, 0, none⟩ = some (.int .i64 0) := Ke.out.cell (i := 0) rfl
  have hE : Ext x5 (World.drew x5) := (Ext.refl _).drew
  have hyd : Ext x5 (World.drew x5) := (Ext.refl _).drew
  replace hx := hx.trans hyd
  replace Kn := kE Kn hyd
  replace Ke := kE Ke hyd
  replace Kq := kE Kq hyd
  replace Kf := kE Kf hyd
  replace Vq := Lib.hid (Vq.out.ext hyd)
  replace Vf := Lib.hid (Vf.out.ext hyd)
  clear hyd
  replace s0 : World.cell? (World.drew x5) ⟨pq, 0, none⟩ = some (.bool nq) := s0
  replace s1 : World.cell? (World.drew x5) ⟨pq, 1, none⟩ = some (.slice aq qq cq) := s1
  replace s2 : World.cell? (World.drew x5) ⟨w.heap.size + 2, 0, none⟩ = some (.int .i64 0) := s2
  refine wp_region_noPanic ?_
  refine wp_region_held_drew (S := (fun w' => World.cell? w' ⟨pq, 0, none⟩ = some (.bool nq) ∧ World.cell? w' ⟨pq, 1, none⟩ = some (.slice aq qq cq) ∧ World.cell? w' ⟨w.heap.size + 2, 0, none⟩ = some (.int .i64 0))) (by kernel_rfl) ?_ (fun hHeld => ?_)
  · exact ⟨s0, s1, s2⟩
  (try simp only [← List.toArray_replicate, List.size_toArray, List.length_cons, List.length_nil, Nat.reduceAdd, List.replicate_succ, List.replicate_zero])
  generalize World.drew x5 = x6 at *
  refine wpAnyH_take (i := 0) (oi := _) (v := ?_) rfl (by kernel_rfl) (by kernel_rfl) (by kernel_rfl) (fun _ _ _ h => h) (Or.inl ⟨by rfl, ?_⟩) (by assumption) ?_
  rotate_left
  · (intro w hSw; (try dsimp only at hSw); (try go_simp); (try with_reducible rfl))
  (try simp only [Act.put, List.getElem_toArray, List.getElem_cons_succ, List.getElem_cons_zero, List.setIfInBounds_toArray, List.set_cons_zero, List.set_cons_succ])
  refine wpAnyH_take (i := 1) (oi := _) (v := ?_) rfl (by kernel_rfl) (by kernel_rfl) (by kernel_rfl) (fun _ _ _ h => h) (Or.inl ⟨by rfl, ?_⟩) (by assumption) ?_
  rotate_left
  · (intro w hSw; (try dsimp only at hSw); (try go_simp); (try with_reducible rfl))
  (try simp only [Act.put, List.getElem_toArray, List.getElem_cons_succ, List.getElem_cons_zero, List.setIfInBounds_toArray, List.set_cons_zero, List.set_cons_succ])
  refine wpAnyH_ready (rs := [2]) (by kernel_rfl) (by simp) ?_
  refine AllReadyH.cons (o := _) rfl (fun K hK => ?_) ?_
  · obtain ⟨g0, z0, g1, z1⟩ := bp2 Kn (.bool nq) (.slice aq qq cq); go_simp; clear g0 z0 g1 z1; replace Vq := (by first | exact rv2 Vq Kn (.bool nq) (.slice aq qq cq) rfl rfl | exact bv2 Vq Kn (.bool nq) (.slice aq qq cq) rfl rfl); replace Vf := (by first | exact rv2 Vf Kn (.bool nq) (.slice aq qq cq) rfl rfl | exact bv2 Vf Kn (.bool nq) (.slice aq qq cq) rfl rfl); replace hx := bx2 hx (w.heap.size + 1) (.bool nq) (.slice aq qq cq) (by omega); replace s0 := bf2 s0 (w.heap.size + 1) (.bool nq) (.slice aq qq cq) (by omega); replace s1 := bf2 s1 (w.heap.size + 1) (.bool nq) (.slice aq qq cq) (by omega); replace s2 := bf2 s2 (w.heap.size + 1) (.bool nq) (.slice aq qq cq) (by omega); replace Kn := bs2 Kn (.bool nq) (.slice aq qq cq); replace Ke := bo2 Ke (w.heap.size + 1) (.bool nq) (.slice aq qq cq) (by omega); replace Kq := bo2 Kq (w.heap.size + 1) (.bool nq) (.slice aq qq cq) (by omega); replace Kf := bo2 Kf (w.heap.size + 1) (.bool nq) (.slice aq qq cq) (by omega); clear hE; generalize (World.setCell (World.setCell x6 ⟨w.heap.size + 1, 0, none⟩ (.bool nq)) ⟨w.heap.size + 1, 1, none⟩ (.slice aq qq cq)) = x7 at *; have hE := Ext.refl x7
    refine hK.out _ _ ?_ (fun hHeld2 => ?_)
    · exact ⟨s0, s1, s2⟩
    clear hK K hHeld
    have hHeld := hHeld2
    clear hHeld2
    (try simp only [Act.put, List.getElem_toArray, List.getElem_cons_succ, List.getElem_cons_zero, List.setIfInBounds_toArray, List.set_cons_zero, List.set_cons_succ])
    refine wpAnyH_ready (rs := [3]) (by kernel_rfl) (by simp) ?_
    refine AllReadyH.cons (o := _) rfl (fun K hK => ?_) ?_
    · obtain ⟨g0, z0⟩ := bp1 Ke (.int .i64 0); go_simp; clear g0 z0; replace Vq := (by first | exact rv1 Vq Ke (.int .i64 0) rfl | exact bv1 Vq Ke (.int .i64 0) rfl); replace Vf := (by first | exact rv1 Vf Ke (.int .i64 0) rfl | exact bv1 Vf Ke (.int .i64 0) rfl); replace hx := bx1 hx (w.heap.size + 2) (.int .i64 0) (by omega); replace s0 := bf1 s0 (w.heap.size + 2) (.int .i64 0) (by omega); replace s1 := bf1 s1 (w.heap.size + 2) (.int .i64 0) (by omega); replace Kn := bo1 Kn (w.heap.size + 2) (.int .i64 0) (by omega); replace Ke := bs1 Ke (.int .i64 0); replace Kq := bo1 Kq (w.heap.size + 2) (.int .i64 0) (by omega); replace Kf := bo1 Kf (w.heap.size + 2) (.int .i64 0) (by omega); replace s2 := Ke.out.cell (i := 0) (v := .int .i64 0) rfl; clear hE; generalize (World.setCell x7 ⟨w.heap.size + 2, 0, none⟩ (.int .i64 0)) = x8 at *; have hE := Ext.refl x8
      refine hK.out _ _ ?_ (fun hHeld2 => ?_)
      · exact ⟨s0, s1, s2⟩
      clear hK K hHeld
      have hHeld := hHeld2
      clear hHeld2
      (try simp only [Act.put, List.getElem_toArray, List.getElem_cons_succ, List.getElem_cons_zero, List.setIfInBounds_toArray, List.set_cons_zero, List.set_cons_succ])
      refine wpAnyH_done (by kernel_rfl) ?_ _
      refine NoPanic.normal ?_
      go_wp2_with fail
      obtain ⟨cn0, cn1⟩ := bk2 Kn
      have ce0 := bk1 Ke
      refine leaves_cons (f := 49) (args := #[.pointer (some ⟨w.heap.size + 2, 0, none⟩)]) (by simp) (by simp [go_sem]) ?_
      refine (ratio_caught_idle ⟨w.heap.size + 2, 0, none⟩ _).mono ?_
      rintro e u' w'' ⟨rfl, rfl, rfl⟩
      simp [Leaves, settle, results, Tryz.results25, go_sem, cn0, cn1, ce0]
      have hfin := BigV.parts Vq.out
      obtain ⟨l, rfl, hi, hb⟩ := hfin
      exact ⟨_, rfl, ⟨_, _, _, _, rfl, hi, hb, Fq.out⟩, hx⟩
    exact AllReadyH.nil
  exact AllReadyH.nil
end Go.Proofs.YtnpeakahiedeoaaGreatDoor

namespace Go.Proofs.YtnpeakahiedeoaaGreatDoor
open Go.RowKit Go BigFrame
set_option maxRecDepth 100000
set_option linter.unusedSimpArgs false
set_option linter.unusedVariables false

/-! ratio's functions on arguments that are not valid. -/
end Go.Proofs.YtnpeakahiedeoaaGreatDoor

