import Derived.Test.YtpaaanbcadlhiaaDoorPSane0
import Derived.OwnWalk
import Derived.Deep.Cut
import Derived.Deep.RegionHeld3
import Derived.Deep.LoopGhost
import Derived.BigFrame
namespace Go.Proofs.YtpaaanbcadlhiaaDoor
open Go.RowKit Go BigFrame
set_option maxRecDepth 100000
set_option linter.unusedSimpArgs false

set_option maxHeartbeats 16000000 in
theorem law09Sane (w : World) : Calls Tryd.prog 12 #[] w fun e w' => e = .returned (.bool true) ∧ Ext w w' := by
  have hx := Ext.refl w
  go_enter Tryd.func12, Tryd.ntmps12
  go_upto_region 1 with fail
  go_wp2_with fail
  with_reducible refine (nat_Make (-9223372036854775808) _ (by omega)).mono ?_
  rintro e x1 ⟨v, rfl, hv, hy⟩
  have hv := hv.val
  have hx := hx.trans hy
  clear hy
  obtain ⟨na, aa, qa, ca, rfl⟩ := hv.form
  have Va := Lib.hid hv
  clear hv
  go_upto_region 2 with fail
  have hl := Ext.alloc x1 (.cells #[.bool na, .slice aa qa ca] 24)
  have hx := hx.trans hl
  have Va := Lib.hid (Va.out.ext hl)
  have Ka := Lib.hid (Blk.new0 x1 #[.bool na, .slice aa qa ca] 24)
  clear hl
  generalize x1.alloc (.cells #[.bool na, .slice aa qa ca] 24) = x2 at *
  generalize x1.heap.size = pa at *
  have i1 : Ints (x2.alloc (.cells #[.int .i64 0, .int .i64 0, .int .i64 8] 3)) (some ⟨x2.heap.size, 0, none⟩) 3 [0, 0, 8] := IB.ints (g := x2.heap.size) (L := [0, 0, 8]) (Blk.new0 x2 #[.int .i64 0, .int .i64 0, .int .i64 8] 3) (by decide) (by simp)
  have hl : Ext x2 (x2.alloc (.cells #[.int .i64 0, .int .i64 0, .int .i64 8] 3)) := (by repeat (first | with_reducible exact Ext.refl _ | with_reducible assumption | with_reducible refine Ext.drewN ?_ _ | with_reducible refine Ext.drew ?_ | with_reducible refine Ext.alloc' ?_ _ | with_reducible refine Ext.set ?_ (by dsimp only; omega) _))
  have hv : BigV (x2.alloc (.cells #[.int .i64 0, .int .i64 0, .int .i64 8] 3)) (.agg #[.bool false, .slice (some ⟨x2.heap.size, 0, none⟩) 3 3]) 9223372036854775808 := ⟨false, [0, 0, 8], ⟨_, _, rfl, i1⟩, bigMin⟩
  have hx := hx.trans hl
  have Va := Lib.hid (Va.out.ext hl)
  have Ka := Lib.hid (Ka.out.ext hl)
  clear hl i1
  have Vb := Lib.hid hv
  clear hv
  obtain ⟨ab, hab⟩ : ∃ a : Option Addr, a = some ⟨x2.heap.size, 0, none⟩ := ⟨_, rfl⟩
  rw [← hab] at Vb
  go_upto_region 3 with fail
  rw [← hab]
  clear hab
  have hl := Ext.alloc (x2.alloc (.cells #[.int .i64 0, .int .i64 0, .int .i64 8] 3)) (.cells #[.bool false, .slice ab 3 3] 24)
  have hx := hx.trans hl
  have Va := Lib.hid (Va.out.ext hl)
  have Ka := Lib.hid (Ka.out.ext hl)
  have Vb := Lib.hid (Vb.out.ext hl)
  have Kb := Lib.hid (Blk.new1 x2 (.cells #[.int .i64 0, .int .i64 0, .int .i64 8] 3) #[.bool false, .slice ab 3 3] 24)
  clear hl
  generalize (x2.alloc (.cells #[.int .i64 0, .int .i64 0, .int .i64 8] 3)).alloc (.cells #[.bool false, .slice ab 3 3] 24) = x3 at *
  generalize x2.heap.size + 1 = pb at *
  have ca0 := Ka.out.cell (i := 0) (v := .bool na) rfl
  have ca1 := Ka.out.cell (i := 1) (v := .slice aa qa ca) rfl
  go_wp2_with fail
  with_reducible refine (sanI1 Va.out).mono ?_
  rintro e x4 ⟨rfl, hy⟩
  have hx := hx.trans hy
  have Va := Lib.hid (Va.out.ext hy)
  have Ka := Lib.hid (Ka.out.ext hy)
  have Vb := Lib.hid (Vb.out.ext hy)
  have Kb := Lib.hid (Kb.out.ext hy)
  clear hy
  go_upto_region 4 with fail
  clear ca0 ca1
  have cb0 := Kb.out.cell (i := 0) (v := .bool false) rfl
  have cb1 := Kb.out.cell (i := 1) (v := .slice ab 3 3) rfl
  go_wp2_with fail
  with_reducible refine (sanI2 Vb.out).mono ?_
  rintro e x5 ⟨rfl, hy⟩
  have hx := hx.trans hy
  have Va := Lib.hid (Va.out.ext hy)
  have Ka := Lib.hid (Ka.out.ext hy)
  have Vb := Lib.hid (Vb.out.ext hy)
  have Kb := Lib.hid (Kb.out.ext hy)
  clear hy
  go_upto_region 5 with fail
  clear cb0 cb1
  clear Kb Vb
  have i1 : Ints ((x5.alloc (.cells #[.int .i64 1073741823] 3)).alloc (.cells #[.int .i64 1073741823] 3)) (some ⟨x5.heap.size, 0, none⟩) 1 [1073741823] := IB.ints (g := x5.heap.size) (L := [1073741823]) ((Blk.new0 x5 #[.int .i64 1073741823] 3).alloc _) (by decide) (by simp)
  have i2 : Ints ((x5.alloc (.cells #[.int .i64 1073741823] 3)).alloc (.cells #[.int .i64 1073741823] 3)) (some ⟨x5.heap.size + 1, 0, none⟩) 1 [1073741823] := IB.ints (g := x5.heap.size + 1) (L := [1073741823]) (Blk.new1 x5 (.cells #[.int .i64 1073741823] 3) #[.int .i64 1073741823] 3) (by decide) (by simp)
  have hl : Ext x5 ((x5.alloc (.cells #[.int .i64 1073741823] 3)).alloc (.cells #[.int .i64 1073741823] 3)) := (by repeat (first | with_reducible exact Ext.refl _ | with_reducible assumption | with_reducible refine Ext.drewN ?_ _ | with_reducible refine Ext.drew ?_ | with_reducible refine Ext.alloc' ?_ _ | with_reducible refine Ext.set ?_ (by dsimp only; omega) _))
  have hm1 : BigV ((x5.alloc (.cells #[.int .i64 1073741823] 3)).alloc (.cells #[.int .i64 1073741823] 3)) (.agg #[.bool false, .slice (some ⟨x5.heap.size, 0, none⟩) 1 1]) 1073741823 := ⟨false, [1073741823], ⟨_, _, rfl, i1⟩, bigTop⟩
  have hm2 : BigV ((x5.alloc (.cells #[.int .i64 1073741823] 3)).alloc (.cells #[.int .i64 1073741823] 3)) (.agg #[.bool false, .slice (some ⟨x5.heap.size + 1, 0, none⟩) 1 1]) 1073741823 := ⟨false, [1073741823], ⟨_, _, rfl, i2⟩, bigTop⟩
  have hx := hx.trans hl
  have Va := Lib.hid (Va.out.ext hl)
  have Ka := Lib.hid (Ka.out.ext hl)
  have HM := Lib.hid (sanM hm1 hm2)
  clear hl i1 i2 hm1 hm2
  go_wp2_with fail
  with_reducible refine (HM.out).mono ?_
  rintro e x6 ⟨v, rfl, hv, hy⟩
  have hv := hv.val
  have hx := hx.trans hy
  have Va := Lib.hid (Va.out.ext hy)
  have Ka := Lib.hid (Ka.out.ext hy)
  clear hy
  obtain ⟨nm, am, qm, cm, rfl⟩ := hv.form
  have Vm := Lib.hid hv
  clear hv
  go_upto_region 6 with fail
  have hl := Ext.alloc x6 (.cells #[.bool nm, .slice am qm cm] 24)
  have hx := hx.trans hl
  have Va := Lib.hid (Va.out.ext hl)
  have Ka := Lib.hid (Ka.out.ext hl)
  have Vm := Lib.hid (Vm.out.ext hl)
  have Km := Lib.hid (Blk.new0 x6 #[.bool nm, .slice am qm cm] 24)
  clear hl
  generalize x6.alloc (.cells #[.bool nm, .slice am qm cm] 24) = x7 at *
  generalize x6.heap.size = pm at *
  clear HM
  go_wp2_with fail
  with_reducible refine (nat_Make (-7) _ (by omega)).mono ?_
  rintro e x8 ⟨v, rfl, hv, hy⟩
  have hv := hv.val
  have hx := hx.trans hy
  have Va := Lib.hid (Va.out.ext hy)
  have Ka := Lib.hid (Ka.out.ext hy)
  have Vm := Lib.hid (Vm.out.ext hy)
  have Km := Lib.hid (Km.out.ext hy)
  obtain ⟨nz, az, qz, cz, rfl⟩ := hv.form
  have VZ := Lib.hid hv
  clear hv hy
  go_wp2_with fail
  with_reducible refine (nat_Make (2) _ (by omega)).mono ?_
  rintro e x9 ⟨v, rfl, hv, hy⟩
  have hv := hv.val
  have hx := hx.trans hy
  have Va := Lib.hid (Va.out.ext hy)
  have Ka := Lib.hid (Ka.out.ext hy)
  have Vm := Lib.hid (Vm.out.ext hy)
  have Km := Lib.hid (Km.out.ext hy)
  obtain ⟨ny, ay, qy, cy, rfl⟩ := hv.form
  have VY := Lib.hid hv
  have VZ := Lib.hid (VZ.out.ext hy)
  clear hv hy
  go_wp2_with fail
  with_reducible refine (sanD1 VZ.out VY.out).mono ?_
  rintro e x10 ⟨v, u, rfl, hv, hu, hy⟩
  have hx := hx.trans hy
  have Va := Lib.hid (Va.out.ext hy)
  have Ka := Lib.hid (Ka.out.ext hy)
  have Vm := Lib.hid (Vm.out.ext hy)
  have Km := Lib.hid (Km.out.ext hy)
  obtain ⟨nq, aq, qq, cq, rfl⟩ := hv.form
  obtain ⟨nr, ar, qr, cr, rfl⟩ := hu.form
  have Vq := Lib.hid hv
  have Vr := Lib.hid hu
  clear hv hu hy VZ VY
  go_upto_region 7 with fail
  have hl : Ext x10 ((x10.alloc (.cells #[.bool nq, .slice aq qq cq] 24)).alloc (.cells #[.bool nr, .slice ar qr cr] 24)) := (by repeat (first | with_reducible exact Ext.refl _ | with_reducible assumption | with_reducible refine Ext.drewN ?_ _ | with_reducible refine Ext.drew ?_ | with_reducible refine Ext.alloc' ?_ _ | with_reducible refine Ext.set ?_ (by dsimp only; omega) _))
  have hx := hx.trans hl
  have Va := Lib.hid (Va.out.ext hl)
  have Ka := Lib.hid (Ka.out.ext hl)
  have Vm := Lib.hid (Vm.out.ext hl)
  have Km := Lib.hid (Km.out.ext hl)
  have Vq := Lib.hid (Vq.out.ext hl)
  have Vr := Lib.hid (Vr.out.ext hl)
  have Kq := Lib.hid ((Blk.new0 x10 #[.bool nq, .slice aq qq cq] 24).alloc (.cells #[.bool nr, .slice ar qr cr] 24))
  have Kr := Lib.hid (Blk.new1 x10 (.cells #[.bool nq, .slice aq qq cq] 24) #[.bool nr, .slice ar qr cr] 24)
  clear hl
  generalize (x10.alloc (.cells #[.bool nq, .slice aq qq cq] 24)).alloc (.cells #[.bool nr, .slice ar qr cr] 24) = x11 at *
  go_wp2_with fail
  with_reducible refine (nat_Make (-7) _ (by omega)).mono ?_
  rintro e x12 ⟨v, rfl, hv, hy⟩
  have hv := hv.val
  have hx := hx.trans hy
  have Va := Lib.hid (Va.out.ext hy)
  have Ka := Lib.hid (Ka.out.ext hy)
  have Vm := Lib.hid (Vm.out.ext hy)
  have Km := Lib.hid (Km.out.ext hy)
  have Vq := Lib.hid (Vq.out.ext hy)
  have Vr := Lib.hid (Vr.out.ext hy)
  have Kq := Lib.hid (Kq.out.ext hy)
  have Kr := Lib.hid (Kr.out.ext hy)
  obtain ⟨nz, az, qz, cz, rfl⟩ := hv.form
  have VZ := Lib.hid hv
  clear hv hy
  go_wp2_with fail
  with_reducible refine (nat_Make (-2) _ (by omega)).mono ?_
  rintro e x13 ⟨v, rfl, hv, hy⟩
  have hv := hv.val
  have hx := hx.trans hy
  have Va := Lib.hid (Va.out.ext hy)
  have Ka := Lib.hid (Ka.out.ext hy)
  have Vm := Lib.hid (Vm.out.ext hy)
  have Km := Lib.hid (Km.out.ext hy)
  have Vq := Lib.hid (Vq.out.ext hy)
  have Vr := Lib.hid (Vr.out.ext hy)
  have Kq := Lib.hid (Kq.out.ext hy)
  have Kr := Lib.hid (Kr.out.ext hy)
  obtain ⟨ny, ay, qy, cy, rfl⟩ := hv.form
  have VY := Lib.hid hv
  have VZ := Lib.hid (VZ.out.ext hy)
  clear hv hy
  go_wp2_with fail
  with_reducible refine (sanD2 VZ.out VY.out).mono ?_
  rintro e x14 ⟨v, u, rfl, hv, hu, hy⟩
  have hx := hx.trans hy
  have Va := Lib.hid (Va.out.ext hy)
  have Ka := Lib.hid (Ka.out.ext hy)
  have Vm := Lib.hid (Vm.out.ext hy)
  have Km := Lib.hid (Km.out.ext hy)
  have Vq := Lib.hid (Vq.out.ext hy)
  have Vr := Lib.hid (Vr.out.ext hy)
  have Kq := Lib.hid (Kq.out.ext hy)
  have Kr := Lib.hid (Kr.out.ext hy)
  obtain ⟨nu, au, qu, cu, rfl⟩ := hv.form
  obtain ⟨nv, av, qv, cv, rfl⟩ := hu.form
  have Vu := Lib.hid hv
  have Vv := Lib.hid hu
  clear hv hu hy VZ VY
  go_upto_region 8 with fail
  have hl : Ext x14 ((x14.alloc (.cells #[.bool nu, .slice au qu cu] 24)).alloc (.cells #[.bool nv, .slice av qv cv] 24)) := (by repeat (first | with_reducible exact Ext.refl _ | with_reducible assumption | with_reducible refine Ext.drewN ?_ _ | with_reducible refine Ext.drew ?_ | with_reducible refine Ext.alloc' ?_ _ | with_reducible refine Ext.set ?_ (by dsimp only; omega) _))
  have hx := hx.trans hl
  have Va := Lib.hid (Va.out.ext hl)
  have Ka := Lib.hid (Ka.out.ext hl)
  have Vm := Lib.hid (Vm.out.ext hl)
  have Km := Lib.hid (Km.out.ext hl)
  have Vq := Lib.hid (Vq.out.ext hl)
  have Vr := Lib.hid (Vr.out.ext hl)
  have Kq := Lib.hid (Kq.out.ext hl)
  have Kr := Lib.hid (Kr.out.ext hl)
  have Vu := Lib.hid (Vu.out.ext hl)
  have Vv := Lib.hid (Vv.out.ext hl)
  have Ku := Lib.hid ((Blk.new0 x14 #[.bool nu, .slice au qu cu] 24).alloc (.cells #[.bool nv, .slice av qv cv] 24))
  have Kv := Lib.hid (Blk.new1 x14 (.cells #[.bool nu, .slice au qu cu] 24) #[.bool nv, .slice av qv cv] 24)
  clear hl
  generalize (x14.alloc (.cells #[.bool nu, .slice au qu cu] 24)).alloc (.cells #[.bool nv, .slice av qv cv] 24) = x15 at *
  go_wp2_with fail
  with_reducible refine (nat_Make 1 _ (by omega)).mono ?_
  rintro e x16 ⟨v, rfl, hv, hy⟩
  have hv := hv.val
  have hx := hx.trans hy
  have Va := Lib.hid (Va.out.ext hy)
  have Ka := Lib.hid (Ka.out.ext hy)
  have Vm := Lib.hid (Vm.out.ext hy)
  have Km := Lib.hid (Km.out.ext hy)
  have Vq := Lib.hid (Vq.out.ext hy)
  have Vr := Lib.hid (Vr.out.ext hy)
  have Kq := Lib.hid (Kq.out.ext hy)
  have Kr := Lib.hid (Kr.out.ext hy)
  have Vu := Lib.hid (Vu.out.ext hy)
  have Vv := Lib.hid (Vv.out.ext hy)
  have Ku := Lib.hid (Ku.out.ext hy)
  have Kv := Lib.hid (Kv.out.ext hy)
  obtain ⟨nz, az, qz, cz, rfl⟩ := hv.form
  have VZ := Lib.hid hv
  clear hv hy
  go_wp2_with fail
  with_reducible refine (div_zero VZ.out (len_small (by decide))).mono ?_
  rintro e x17 ⟨rfl, hy⟩
  have hx := hx.trans hy
  have Va := Lib.hid (Va.out.ext hy)
  have Ka := Lib.hid (Ka.out.ext hy)
  have Vm := Lib.hid (Vm.out.ext hy)
  have Km := Lib.hid (Km.out.ext hy)
  have Vq := Lib.hid (Vq.out.ext hy)
  have Vr := Lib.hid (Vr.out.ext hy)
  have Kq := Lib.hid (Kq.out.ext hy)
  have Kr := Lib.hid (Kr.out.ext hy)
  have Vu := Lib.hid (Vu.out.ext hy)
  have Vv := Lib.hid (Vv.out.ext hy)
  have Ku := Lib.hid (Ku.out.ext hy)
  have Kv := Lib.hid (Kv.out.ext hy)
  clear hy VZ
  go_upto_region 9 with fail
  have hl : Ext x17 (((x17).alloc (.cells #[.bool false, .slice none 0 0] 24)).alloc (.cells #[.bool false, .slice none 0 0] 24)) := (by repeat (first | with_reducible exact Ext.refl _ | with_reducible assumption | with_reducible refine Ext.drewN ?_ _ | with_reducible refine Ext.drew ?_ | with_reducible refine Ext.alloc' ?_ _ | with_reducible refine Ext.set ?_ (by dsimp only; omega) _))
  have hx := hx.trans hl
  have Va := Lib.hid (Va.out.ext hl)
  have Ka := Lib.hid (Ka.out.ext hl)
  have Vm := Lib.hid (Vm.out.ext hl)
  have Km := Lib.hid (Km.out.ext hl)
  have Vq := Lib.hid (Vq.out.ext hl)
  have Vr := Lib.hid (Vr.out.ext hl)
  have Kq := Lib.hid (Kq.out.ext hl)
  have Kr := Lib.hid (Kr.out.ext hl)
  have Vu := Lib.hid (Vu.out.ext hl)
  have Vv := Lib.hid (Vv.out.ext hl)
  have Ku := Lib.hid (Ku.out.ext hl)
  have Kv := Lib.hid (Kv.out.ext hl)
  clear hl
  generalize ((x17).alloc (.cells #[.bool false, .slice none 0 0] 24)).alloc (.cells #[.bool false, .slice none 0 0] 24) = x18 at *
  go_wp2_with fail
  with_reducible refine (nat_Make (-12) _ (by omega)).mono ?_
  rintro e x19 ⟨v, rfl, hv, hy⟩
  have hv := hv.val
  have hx := hx.trans hy
  have Va := Lib.hid (Va.out.ext hy)
  have Ka := Lib.hid (Ka.out.ext hy)
  have Vm := Lib.hid (Vm.out.ext hy)
  have Km := Lib.hid (Km.out.ext hy)
  have Vq := Lib.hid (Vq.out.ext hy)
  have Vr := Lib.hid (Vr.out.ext hy)
  have Kq := Lib.hid (Kq.out.ext hy)
  have Kr := Lib.hid (Kr.out.ext hy)
  have Vu := Lib.hid (Vu.out.ext hy)
  have Vv := Lib.hid (Vv.out.ext hy)
  have Ku := Lib.hid (Ku.out.ext hy)
  have Kv := Lib.hid (Kv.out.ext hy)
  obtain ⟨nz, az, qz, cz, rfl⟩ := hv.form
  have VZ := Lib.hid hv
  clear hv hy
  go_wp2_with fail
  with_reducible refine (nat_Make (18) _ (by omega)).mono ?_
  rintro e x20 ⟨v, rfl, hv, hy⟩
  have hv := hv.val
  have hx := hx.trans hy
  have Va := Lib.hid (Va.out.ext hy)
  have Ka := Lib.hid (Ka.out.ext hy)
  have Vm := Lib.hid (Vm.out.ext hy)
  have Km := Lib.hid (Km.out.ext hy)
  have Vq := Lib.hid (Vq.out.ext hy)
  have Vr := Lib.hid (Vr.out.ext hy)
  have Kq := Lib.hid (Kq.out.ext hy)
  have Kr := Lib.hid (Kr.out.ext hy)
  have Vu := Lib.hid (Vu.out.ext hy)
  have Vv := Lib.hid (Vv.out.ext hy)
  have Ku := Lib.hid (Ku.out.ext hy)
  have Kv := Lib.hid (Kv.out.ext hy)
  obtain ⟨ny, ay, qy, cy, rfl⟩ := hv.form
  have VY := Lib.hid hv
  have VZ := Lib.hid (VZ.out.ext hy)
  clear hv hy
  go_wp2_with fail
  with_reducible refine (sanG VZ.out VY.out).mono ?_
  rintro e x21 ⟨v, rfl, hv, hy⟩
  have hx := hx.trans hy
  have Va := Lib.hid (Va.out.ext hy)
  have Ka := Lib.hid (Ka.out.ext hy)
  have Vm := Lib.hid (Vm.out.ext hy)
  have Km := Lib.hid (Km.out.ext hy)
  have Vq := Lib.hid (Vq.out.ext hy)
  have Vr := Lib.hid (Vr.out.ext hy)
  have Kq := Lib.hid (Kq.out.ext hy)
  have Kr := Lib.hid (Kr.out.ext hy)
  have Vu := Lib.hid (Vu.out.ext hy)
  have Vv := Lib.hid (Vv.out.ext hy)
  have Ku := Lib.hid (Ku.out.ext hy)
  have Kv := Lib.hid (Kv.out.ext hy)
  obtain ⟨nx, ax, qx, cx, rfl⟩ := hv.form
  have Vx := Lib.hid hv
  clear hv hy VZ VY
  go_upto_region 10 with fail
  have hl := Ext.alloc x21 (.cells #[.bool nx, .slice ax qx cx] 24)
  have hx := hx.trans hl
  have Va := Lib.hid (Va.out.ext hl)
  have Ka := Lib.hid (Ka.out.ext hl)
  have Vm := Lib.hid (Vm.out.ext hl)
  have Km := Lib.hid (Km.out.ext hl)
  have Vq := Lib.hid (Vq.out.ext hl)
  have Vr := Lib.hid (Vr.out.ext hl)
  have Kq := Lib.hid (Kq.out.ext hl)
  have Kr := Lib.hid (Kr.out.ext hl)
  have Vu := Lib.hid (Vu.out.ext hl)
  have Vv := Lib.hid (Vv.out.ext hl)
  have Ku := Lib.hid (Ku.out.ext hl)
  have Kv := Lib.hid (Kv.out.ext hl)
  have Vx := Lib.hid (Vx.out.ext hl)
  have Kx := Lib.hid (Blk.new0 x21 #[.bool nx, .slice ax qx cx] 24)
  clear hl
  generalize x21.alloc (.cells #[.bool nx, .slice ax qx cx] 24) = x22 at *
  generalize x21.heap.size = px at *
  go_wp2_with fail
  with_reducible refine (sanC _).mono ?_
  rintro e x23 ⟨v, rfl, hv, hy⟩
  have hv := hv.val
  have hx := hx.trans hy
  have Va := Lib.hid (Va.out.ext hy)
  have Ka := Lib.hid (Ka.out.ext hy)
  have Vm := Lib.hid (Vm.out.ext hy)
  have Km := Lib.hid (Km.out.ext hy)
  have Vq := Lib.hid (Vq.out.ext hy)
  have Vr := Lib.hid (Vr.out.ext hy)
  have Kq := Lib.hid (Kq.out.ext hy)
  have Kr := Lib.hid (Kr.out.ext hy)
  have Vu := Lib.hid (Vu.out.ext hy)
  have Vv := Lib.hid (Vv.out.ext hy)
  have Ku := Lib.hid (Ku.out.ext hy)
  have Kv := Lib.hid (Kv.out.ext hy)
  have Vx := Lib.hid (Vx.out.ext hy)
  have Kx := Lib.hid (Kx.out.ext hy)
  clear hy
  obtain ⟨nn, an, qn, cn, rfl⟩ := hv.form
  have Vn := Lib.hid hv
  clear hv
  go_upto_region 11 with fail
  have hl := Ext.alloc x23 (.cells #[.bool nn, .slice an qn cn] 24)
  have hx := hx.trans hl
  have Va := Lib.hid (Va.out.ext hl)
  have Ka := Lib.hid (Ka.out.ext hl)
  have Vm := Lib.hid (Vm.out.ext hl)
  have Km := Lib.hid (Km.out.ext hl)
  have Vq := Lib.hid (Vq.out.ext hl)
  have Vr := Lib.hid (Vr.out.ext hl)
  have Kq := Lib.hid (Kq.out.ext hl)
  have Kr := Lib.hid (Kr.out.ext hl)
  have Vu := Lib.hid (Vu.out.ext hl)
  have Vv := Lib.hid (Vv.out.ext hl)
  have Ku := Lib.hid (Ku.out.ext hl)
  have Kv := Lib.hid (Kv.out.ext hl)
  have Vx := Lib.hid (Vx.out.ext hl)
  have Kx := Lib.hid (Kx.out.ext hl)
  have Vn := Lib.hid (Vn.out.ext hl)
  have Kn := Lib.hid (Blk.new0 x23 #[.bool nn, .slice an qn cn] 24)
  clear hl
  generalize x23.alloc (.cells #[.bool nn, .slice an qn cn] 24) = x24 at *
  generalize x23.heap.size = pn at *
  go_wp2_with fail
  with_reducible refine (sanC2 _).mono ?_
  rintro e x25 ⟨rfl, hy⟩
  have hx := hx.trans hy
  have Va := Lib.hid (Va.out.ext hy)
  have Ka := Lib.hid (Ka.out.ext hy)
  have Vm := Lib.hid (Vm.out.ext hy)
  have Km := Lib.hid (Km.out.ext hy)
  have Vq := Lib.hid (Vq.out.ext hy)
  have Vr := Lib.hid (Vr.out.ext hy)
  have Kq := Lib.hid (Kq.out.ext hy)
  have Kr := Lib.hid (Kr.out.ext hy)
  have Vu := Lib.hid (Vu.out.ext hy)
  have Vv := Lib.hid (Vv.out.ext hy)
  have Ku := Lib.hid (Ku.out.ext hy)
  have Kv := Lib.hid (Kv.out.ext hy)
  have Vx := Lib.hid (Vx.out.ext hy)
  have Kx := Lib.hid (Kx.out.ext hy)
  have Vn := Lib.hid (Vn.out.ext hy)
  have Kn := Lib.hid (Kn.out.ext hy)
  clear hy
  go_upto_region 12 with fail
  have hl : Ext x25 ((x25).alloc (.cells #[.bool false, .slice none 0 0] 24)) := (by repeat (first | with_reducible exact Ext.refl _ | with_reducible assumption | with_reducible refine Ext.drewN ?_ _ | with_reducible refine Ext.drew ?_ | with_reducible refine Ext.alloc' ?_ _ | with_reducible refine Ext.set ?_ (by dsimp only; omega) _))
  have hx := hx.trans hl
  have Va := Lib.hid (Va.out.ext hl)
  have Ka := Lib.hid (Ka.out.ext hl)
  have Vm := Lib.hid (Vm.out.ext hl)
  have Km := Lib.hid (Km.out.ext hl)
  have Vq := Lib.hid (Vq.out.ext hl)
  have Vr := Lib.hid (Vr.out.ext hl)
  have Kq := Lib.hid (Kq.out.ext hl)
  have Kr := Lib.hid (Kr.out.ext hl)
  have Vu := Lib.hid (Vu.out.ext hl)
  have Vv := Lib.hid (Vv.out.ext hl)
  have Ku := Lib.hid (Ku.out.ext hl)
  have Kv := Lib.hid (Kv.out.ext hl)
  have Vx := Lib.hid (Vx.out.ext hl)
  have Kx := Lib.hid (Kx.out.ext hl)
  have Vn := Lib.hid (Vn.out.ext hl)
  have Kn := Lib.hid (Kn.out.ext hl)
  clear hl
  generalize (x25).alloc (.cells #[.bool false, .slice none 0 0] 24) = x26 at *
  go_wp2_with fail
  with_reducible refine (sanC3 _).mono ?_
  rintro e x27 ⟨rfl, hy⟩
  have hx := hx.trans hy
  have Va := Lib.hid (Va.out.ext hy)
  have Ka := Lib.hid (Ka.out.ext hy)
  have Vm := Lib.hid (Vm.out.ext hy)
  have Km := Lib.hid (Km.out.ext hy)
  have Vq := Lib.hid (Vq.out.ext hy)
  have Vr := Lib.hid (Vr.out.ext hy)
  have Kq := Lib.hid (Kq.out.ext hy)
  have Kr := Lib.hid (Kr.out.ext hy)
  have Vu := Lib.hid (Vu.out.ext hy)
  have Vv := Lib.hid (Vv.out.ext hy)
  have Ku := Lib.hid (Ku.out.ext hy)
  have Kv := Lib.hid (Kv.out.ext hy)
  have Vx := Lib.hid (Vx.out.ext hy)
  have Kx := Lib.hid (Kx.out.ext hy)
  have Vn := Lib.hid (Vn.out.ext hy)
  have Kn := Lib.hid (Kn.out.ext hy)
  clear hy
  go_upto_region 13 with fail
  have hl := Ext.alloc x27 (.cells #[.bool false, .slice none 0 0] 24)
  have hx := hx.trans hl
  have Va := Lib.hid (Va.out.ext hl)
  have Ka := Lib.hid (Ka.out.ext hl)
  have Vm := Lib.hid (Vm.out.ext hl)
  have Km := Lib.hid (Km.out.ext hl)
  have Vq := Lib.hid (Vq.out.ext hl)
  have Vr := Lib.hid (Vr.out.ext hl)
  have Kq := Lib.hid (Kq.out.ext hl)
  have Kr := Lib.hid (Kr.out.ext hl)
  have Vu := Lib.hid (Vu.out.ext hl)
  have Vv := Lib.hid (Vv.out.ext hl)
  have Ku := Lib.hid (Ku.out.ext hl)
  have Kv := Lib.hid (Kv.out.ext hl)
  have Vx := Lib.hid (Vx.out.ext hl)
  have Kx := Lib.hid (Kx.out.ext hl)
  have Vn := Lib.hid (Vn.out.ext hl)
  have Kn := Lib.hid (Kn.out.ext hl)
  have Ke := Lib.hid (Blk.new0 x27 #[.bool false, .slice none 0 0] 24)
  clear hl
  generalize x27.alloc (.cells #[.bool false, .slice none 0 0] 24) = x28 at *
  generalize x27.heap.size = pe at *
  have ca0 := Ka.out.cell (i := 0) (v := .bool na) rfl
  have ca1 := Ka.out.cell (i := 1) (v := .slice aa qa ca) rfl
  go_wp2_with fail
  with_reducible refine (sanT Va.out).mono ?_
  rintro e x29 ⟨rfl, hy⟩
  have hx := hx.trans hy
  have Va := Lib.hid (Va.out.ext hy)
  have Ka := Lib.hid (Ka.out.ext hy)
  have Vm := Lib.hid (Vm.out.ext hy)
  have Km := Lib.hid (Km.out.ext hy)
  have Vq := Lib.hid (Vq.out.ext hy)
  have Vr := Lib.hid (Vr.out.ext hy)
  have Kq := Lib.hid (Kq.out.ext hy)
  have Kr := Lib.hid (Kr.out.ext hy)
  have Vu := Lib.hid (Vu.out.ext hy)
  have Vv := Lib.hid (Vv.out.ext hy)
  have Ku := Lib.hid (Ku.out.ext hy)
  have Kv := Lib.hid (Kv.out.ext hy)
  have Vx := Lib.hid (Vx.out.ext hy)
  have Kx := Lib.hid (Kx.out.ext hy)
  have Vn := Lib.hid (Vn.out.ext hy)
  have Kn := Lib.hid (Kn.out.ext hy)
  have Ke := Lib.hid (Ke.out.ext hy)
  clear hy
  go_upto_region 14 with fail
  clear ca0 ca1
  go_wp2_with fail
  with_reducible refine (sanR _).mono ?_
  rintro e x30 ⟨v, rfl, hv, hy⟩
  have hv := hv.val
  have hx := hx.trans hy
  have Va := Lib.hid (Va.out.ext hy)
  have Ka := Lib.hid (Ka.out.ext hy)
  have Vm := Lib.hid (Vm.out.ext hy)
  have Km := Lib.hid (Km.out.ext hy)
  have Vq := Lib.hid (Vq.out.ext hy)
  have Vr := Lib.hid (Vr.out.ext hy)
  have Kq := Lib.hid (Kq.out.ext hy)
  have Kr := Lib.hid (Kr.out.ext hy)
  have Vu := Lib.hid (Vu.out.ext hy)
  have Vv := Lib.hid (Vv.out.ext hy)
  have Ku := Lib.hid (Ku.out.ext hy)
  have Kv := Lib.hid (Kv.out.ext hy)
  have Vx := Lib.hid (Vx.out.ext hy)
  have Kx := Lib.hid (Kx.out.ext hy)
  have Vn := Lib.hid (Vn.out.ext hy)
  have Kn := Lib.hid (Kn.out.ext hy)
  have Ke := Lib.hid (Ke.out.ext hy)
  clear hy
  obtain ⟨nk, ak, qk, ck, rfl⟩ := hv.form
  have Vk := Lib.hid hv
  clear hv
  go_upto_region 15 with fail
  have hl := Ext.alloc x30 (.cells #[.bool nk, .slice ak qk ck] 24)
  have hx := hx.trans hl
  have Va := Lib.hid (Va.out.ext hl)
  have Ka := Lib.hid (Ka.out.ext hl)
  have Vm := Lib.hid (Vm.out.ext hl)
  have Km := Lib.hid (Km.out.ext hl)
  have Vq := Lib.hid (Vq.out.ext hl)
  have Vr := Lib.hid (Vr.out.ext hl)
  have Kq := Lib.hid (Kq.out.ext hl)
  have Kr := Lib.hid (Kr.out.ext hl)
  have Vu := Lib.hid (Vu.out.ext hl)
  have Vv := Lib.hid (Vv.out.ext hl)
  have Ku := Lib.hid (Ku.out.ext hl)
  have Kv := Lib.hid (Kv.out.ext hl)
  have Vx := Lib.hid (Vx.out.ext hl)
  have Kx := Lib.hid (Kx.out.ext hl)
  have Vn := Lib.hid (Vn.out.ext hl)
  have Kn := Lib.hid (Kn.out.ext hl)
  have Ke := Lib.hid (Ke.out.ext hl)
  have Vk := Lib.hid (Vk.out.ext hl)
  have Kk := Lib.hid (Blk.new0 x30 #[.bool nk, .slice ak qk ck] 24)
  clear hl
  generalize x30.alloc (.cells #[.bool nk, .slice ak qk ck] 24) = x31 at *
  generalize x30.heap.size = pk at *
  go_upto_region 17 with fail
  have hl := Ext.alloc x31 (.cells #[.string ⟨#[45, 48]⟩, .string ⟨#[48, 48, 55]⟩, .string ⟨#[43, 49]⟩, .string ⟨#[]⟩, .string ⟨#[45]⟩, .string ⟨#[49, 120]⟩] 9)
  have hx := hx.trans hl
  have Va := Lib.hid (Va.out.ext hl)
  have Ka := Lib.hid (Ka.out.ext hl)
  have Vm := Lib.hid (Vm.out.ext hl)
  have Km := Lib.hid (Km.out.ext hl)
  have Vq := Lib.hid (Vq.out.ext hl)
  have Vr := Lib.hid (Vr.out.ext hl)
  have Kq := Lib.hid (Kq.out.ext hl)
  have Kr := Lib.hid (Kr.out.ext hl)
  have Vu := Lib.hid (Vu.out.ext hl)
  have Vv := Lib.hid (Vv.out.ext hl)
  have Ku := Lib.hid (Ku.out.ext hl)
  have Kv := Lib.hid (Kv.out.ext hl)
  have Vx := Lib.hid (Vx.out.ext hl)
  have Kx := Lib.hid (Kx.out.ext hl)
  have Vn := Lib.hid (Vn.out.ext hl)
  have Kn := Lib.hid (Kn.out.ext hl)
  have Ke := Lib.hid (Ke.out.ext hl)
  have Vk := Lib.hid (Vk.out.ext hl)
  have Kk := Lib.hid (Kk.out.ext hl)
  clear hl
  have KS := Lib.hid (Blk.new0 x31 #[.string ⟨#[45, 48]⟩, .string ⟨#[48, 48, 55]⟩, .string ⟨#[43, 49]⟩, .string ⟨#[]⟩, .string ⟨#[45]⟩, .string ⟨#[49, 120]⟩] 9)
  go_upto_region 18 with fail
  generalize x31.alloc (.cells #[.string ⟨#[45, 48]⟩, .string ⟨#[48, 48, 55]⟩, .string ⟨#[43, 49]⟩, .string ⟨#[]⟩, .string ⟨#[45]⟩, .string ⟨#[49, 120]⟩] 9) = x32 at *
  generalize x31.heap.size = pS at *
  go_loopg [155] 6 (fun k v wr => ∃ j : Nat, j ≤ 6 ∧ k = 6 - j ∧ v = .int .i64 j ∧ Ext x32 wr)
  case atStart => exact ⟨0, by omega, rfl, rfl, Ext.refl _⟩
  case round =>
    obtain ⟨j, hj, hgk, rfl, hy⟩ := hrel
    have KS2 := Lib.hid (KS.out.ext hy)
    rcases (show j = 0 ∨ j = 1 ∨ j = 2 ∨ j = 3 ∨ j = 4 ∨ j = 5 ∨ j = 6 by omega) with rfl | rfl | rfl | rfl | rfl | rfl | rfl
    · have cs := KS2.out.cell (i := 0) (v := .string ⟨#[45, 48]⟩) rfl
      have HG := Lib.hid hgk
      clear hgk
      go_wp2_with fail
      with_reducible refine (sanRb ⟨#[45, 48]⟩ wr (by decide) (by decide)).mono ?_
      rintro e w2 ⟨rfl, hy2⟩
      have HE := Lib.hid ((hy.trans hy2).alloc' (.cells #[.bool false, .slice none 0 0] 24))
      clear hy hy2 hx cs
      go_wp2_with fail
      go_roundg 5
      case measure => have := HG.out; omega
      case rel => exact ⟨1, by omega, by omega, by go_num, HE.out⟩
    · have cs := KS2.out.cell (i := 1) (v := .string ⟨#[48, 48, 55]⟩) rfl
      have HG := Lib.hid hgk
      clear hgk
      go_wp2_with fail
      with_reducible refine (sanRb ⟨#[48, 48, 55]⟩ wr (by decide) (by decide)).mono ?_
      rintro e w2 ⟨rfl, hy2⟩
      have HE := Lib.hid ((hy.trans hy2).alloc' (.cells #[.bool false, .slice none 0 0] 24))
      clear hy hy2 hx cs
      go_wp2_with fail
      go_roundg 4
      case measure => have := HG.out; omega
      case rel => exact ⟨2, by omega, by omega, by go_num, HE.out⟩
    · have cs := KS2.out.cell (i := 2) (v := .string ⟨#[43, 49]⟩) rfl
      have HG := Lib.hid hgk
      clear hgk
      go_wp2_with fail
      with_reducible refine (sanRb ⟨#[43, 49]⟩ wr (by decide) (by decide)).mono ?_
      rintro e w2 ⟨rfl, hy2⟩
      have HE := Lib.hid ((hy.trans hy2).alloc' (.cells #[.bool false, .slice none 0 0] 24))
      clear hy hy2 hx cs
      go_wp2_with fail
      go_roundg 3
      case measure => have := HG.out; omega
      case rel => exact ⟨3, by omega, by omega, by go_num, HE.out⟩
    · have cs := KS2.out.cell (i := 3) (v := .string ⟨#[]⟩) rfl
      have HG := Lib.hid hgk
      clear hgk
      go_wp2_with fail
      with_reducible refine (sanRb ⟨#[]⟩ wr (by decide) (by decide)).mono ?_
      rintro e w2 ⟨rfl, hy2⟩
      have HE := Lib.hid ((hy.trans hy2).alloc' (.cells #[.bool false, .slice none 0 0] 24))
      clear hy hy2 hx cs
      go_wp2_with fail
      go_roundg 2
      case measure => have := HG.out; omega
      case rel => exact ⟨4, by omega, by omega, by go_num, HE.out⟩
    · have cs := KS2.out.cell (i := 4) (v := .string ⟨#[45]⟩) rfl
      have HG := Lib.hid hgk
      clear hgk
      go_wp2_with fail
      with_reducible refine (sanRb ⟨#[45]⟩ wr (by decide) (by decide)).mono ?_
      rintro e w2 ⟨rfl, hy2⟩
      have HE := Lib.hid ((hy.trans hy2).alloc' (.cells #[.bool false, .slice none 0 0] 24))
      clear hy hy2 hx cs
      go_wp2_with fail
      go_roundg 1
      case measure => have := HG.out; omega
      case rel => exact ⟨5, by omega, by omega, by go_num, HE.out⟩
    · have cs := KS2.out.cell (i := 5) (v := .string ⟨#[49, 120]⟩) rfl
      have HG := Lib.hid hgk
      clear hgk
      go_wp2_with fail
      with_reducible refine (sanRb ⟨#[49, 120]⟩ wr (by decide) (by decide)).mono ?_
      rintro e w2 ⟨rfl, hy2⟩
      have HE := Lib.hid ((hy.trans hy2).alloc' (.cells #[.bool false, .slice none 0 0] 24))
      clear hy hy2 hx cs
      go_wp2_with fail
      go_roundg 0
      case measure => have := HG.out; omega
      case rel => exact ⟨6, by omega, by omega, by go_num, HE.out⟩
    · have hx := hx.trans hy
      have Va := Lib.hid (Va.out.ext hy)
      have Ka := Lib.hid (Ka.out.ext hy)
      have Vm := Lib.hid (Vm.out.ext hy)
      have Km := Lib.hid (Km.out.ext hy)
      have Vq := Lib.hid (Vq.out.ext hy)
      have Vr := Lib.hid (Vr.out.ext hy)
      have Kq := Lib.hid (Kq.out.ext hy)
      have Kr := Lib.hid (Kr.out.ext hy)
      have Vu := Lib.hid (Vu.out.ext hy)
      have Vv := Lib.hid (Vv.out.ext hy)
      have Ku := Lib.hid (Ku.out.ext hy)
      have Kv := Lib.hid (Kv.out.ext hy)
      have Vx := Lib.hid (Vx.out.ext hy)
      have Kx := Lib.hid (Kx.out.ext hy)
      have Vn := Lib.hid (Vn.out.ext hy)
      have Kn := Lib.hid (Kn.out.ext hy)
      have Ke := Lib.hid (Ke.out.ext hy)
      have Vk := Lib.hid (Vk.out.ext hy)
      have Kk := Lib.hid (Kk.out.ext hy)
      clear hy hgk KS KS2
      go_upto_region 24 with fail
      have ca0 := Ka.out.cell (i := 0) (v := .bool na) rfl
      have ca1 := Ka.out.cell (i := 1) (v := .slice aa qa ca) rfl
      have i1 : Ints (wr.alloc (.cells #[.int .i64 0, .int .i64 0, .int .i64 8] 3)) (some ⟨wr.heap.size, 0, none⟩) 3 [0, 0, 8] := IB.ints (g := wr.heap.size) (L := [0, 0, 8]) (Blk.new0 wr #[.int .i64 0, .int .i64 0, .int .i64 8] 3) (by decide) (by simp)
      have hl : Ext wr (wr.alloc (.cells #[.int .i64 0, .int .i64 0, .int .i64 8] 3)) := (by repeat (first | with_reducible exact Ext.refl _ | with_reducible assumption | with_reducible refine Ext.drewN ?_ _ | with_reducible refine Ext.drew ?_ | with_reducible refine Ext.alloc' ?_ _ | with_reducible refine Ext.set ?_ (by dsimp only; omega) _))
      have hB1 : BigV (wr.alloc (.cells #[.int .i64 0, .int .i64 0, .int .i64 8] 3)) (.agg #[.bool true, .slice (some ⟨wr.heap.size, 0, none⟩) 3 3]) (-9223372036854775808) := ⟨true, _, ⟨_, _, rfl, i1⟩, bigMinN⟩
      go_wp2_with fail
      with_reducible refine (sameT (Va.out.ext hl) hB1 rfl).mono ?_
      rintro e x33 ⟨rfl, hy⟩
      have hx := hx.trans (hl.trans hy)
      have Va := Lib.hid (Va.out.ext (hl.trans hy))
      have Ka := Lib.hid (Ka.out.ext (hl.trans hy))
      have Vm := Lib.hid (Vm.out.ext (hl.trans hy))
      have Km := Lib.hid (Km.out.ext (hl.trans hy))
      have Vq := Lib.hid (Vq.out.ext (hl.trans hy))
      have Vr := Lib.hid (Vr.out.ext (hl.trans hy))
      have Kq := Lib.hid (Kq.out.ext (hl.trans hy))
      have Kr := Lib.hid (Kr.out.ext (hl.trans hy))
      have Vu := Lib.hid (Vu.out.ext (hl.trans hy))
      have Vv := Lib.hid (Vv.out.ext (hl.trans hy))
      have Ku := Lib.hid (Ku.out.ext (hl.trans hy))
      have Kv := Lib.hid (Kv.out.ext (hl.trans hy))
      have Vx := Lib.hid (Vx.out.ext (hl.trans hy))
      have Kx := Lib.hid (Kx.out.ext (hl.trans hy))
      have Vn := Lib.hid (Vn.out.ext (hl.trans hy))
      have Kn := Lib.hid (Kn.out.ext (hl.trans hy))
      have Ke := Lib.hid (Ke.out.ext (hl.trans hy))
      have Vk := Lib.hid (Vk.out.ext (hl.trans hy))
      have Kk := Lib.hid (Kk.out.ext (hl.trans hy))
      clear hl hy i1 hB1
      clear ca0 ca1
      have cm0 := Km.out.cell (i := 0) (v := .bool nm) rfl
      have cm1 := Km.out.cell (i := 1) (v := .slice am qm cm) rfl
      have i1 : Ints (x33.alloc (.cells #[.int .i64 1, .int .i64 1073741822] 3)) (some ⟨x33.heap.size, 0, none⟩) 2 [1, 1073741822] := IB.ints (g := x33.heap.size) (L := [1, 1073741822]) (Blk.new0 x33 #[.int .i64 1, .int .i64 1073741822] 3) (by decide) (by simp)
      have hl : Ext x33 (x33.alloc (.cells #[.int .i64 1, .int .i64 1073741822] 3)) := (by repeat (first | with_reducible exact Ext.refl _ | with_reducible assumption | with_reducible refine Ext.drewN ?_ _ | with_reducible refine Ext.drew ?_ | with_reducible refine Ext.alloc' ?_ _ | with_reducible refine Ext.set ?_ (by dsimp only; omega) _))
      have hB1 : BigV (x33.alloc (.cells #[.int .i64 1, .int .i64 1073741822] 3)) (.agg #[.bool false, .slice (some ⟨x33.heap.size, 0, none⟩) 2 2]) (1152921502459363329) := ⟨false, _, ⟨_, _, rfl, i1⟩, bigProd⟩
      go_wp2_with fail
      with_reducible refine (sameT (Vm.out.ext hl) hB1 rfl).mono ?_
      rintro e x34 ⟨rfl, hy⟩
      have hx := hx.trans (hl.trans hy)
      have Va := Lib.hid (Va.out.ext (hl.trans hy))
      have Ka := Lib.hid (Ka.out.ext (hl.trans hy))
      have Vm := Lib.hid (Vm.out.ext (hl.trans hy))
      have Km := Lib.hid (Km.out.ext (hl.trans hy))
      have Vq := Lib.hid (Vq.out.ext (hl.trans hy))
      have Vr := Lib.hid (Vr.out.ext (hl.trans hy))
      have Kq := Lib.hid (Kq.out.ext (hl.trans hy))
      have Kr := Lib.hid (Kr.out.ext (hl.trans hy))
      have Vu := Lib.hid (Vu.out.ext (hl.trans hy))
      have Vv := Lib.hid (Vv.out.ext (hl.trans hy))
      have Ku := Lib.hid (Ku.out.ext (hl.trans hy))
      have Kv := Lib.hid (Kv.out.ext (hl.trans hy))
      have Vx := Lib.hid (Vx.out.ext (hl.trans hy))
      have Kx := Lib.hid (Kx.out.ext (hl.trans hy))
      have Vn := Lib.hid (Vn.out.ext (hl.trans hy))
      have Kn := Lib.hid (Kn.out.ext (hl.trans hy))
      have Ke := Lib.hid (Ke.out.ext (hl.trans hy))
      have Vk := Lib.hid (Vk.out.ext (hl.trans hy))
      have Kk := Lib.hid (Kk.out.ext (hl.trans hy))
      clear hl hy i1 hB1
      clear cm0 cm1
      have ck0 := Kk.out.cell (i := 0) (v := .bool nk) rfl
      have ck1 := Kk.out.cell (i := 1) (v := .slice ak qk ck) rfl
      have ca0 := Ka.out.cell (i := 0) (v := .bool na) rfl
      have ca1 := Ka.out.cell (i := 1) (v := .slice aa qa ca) rfl
      go_wp2_with fail
      with_reducible refine (sameT Vk.out Va.out rfl).mono ?_
      rintro e x35 ⟨rfl, hy⟩
      have hx := hx.trans hy
      have Va := Lib.hid (Va.out.ext hy)
      have Ka := Lib.hid (Ka.out.ext hy)
      have Vm := Lib.hid (Vm.out.ext hy)
      have Km := Lib.hid (Km.out.ext hy)
      have Vq := Lib.hid (Vq.out.ext hy)
      have Vr := Lib.hid (Vr.out.ext hy)
      have Kq := Lib.hid (Kq.out.ext hy)
      have Kr := Lib.hid (Kr.out.ext hy)
      have Vu := Lib.hid (Vu.out.ext hy)
      have Vv := Lib.hid (Vv.out.ext hy)
      have Ku := Lib.hid (Ku.out.ext hy)
      have Kv := Lib.hid (Kv.out.ext hy)
      have Vx := Lib.hid (Vx.out.ext hy)
      have Kx := Lib.hid (Kx.out.ext hy)
      have Vn := Lib.hid (Vn.out.ext hy)
      have Kn := Lib.hid (Kn.out.ext hy)
      have Ke := Lib.hid (Ke.out.ext hy)
      have Vk := Lib.hid (Vk.out.ext hy)
      have Kk := Lib.hid (Kk.out.ext hy)
      clear hy
      clear ck0 ck1
      clear ca0 ca1
      have ce0 := Ke.out.cell (i := 0) (v := .bool false) rfl
      have ce1 := Ke.out.cell (i := 1) (v := .slice none 0 0) rfl
      go_wp2_with fail
      with_reducible refine (sameT (BigV.zero _) (BigV.zero _) rfl).mono ?_
      rintro e x36 ⟨rfl, hy⟩
      have hx := hx.trans hy
      have Va := Lib.hid (Va.out.ext hy)
      have Ka := Lib.hid (Ka.out.ext hy)
      have Vm := Lib.hid (Vm.out.ext hy)
      have Km := Lib.hid (Km.out.ext hy)
      have Vq := Lib.hid (Vq.out.ext hy)
      have Vr := Lib.hid (Vr.out.ext hy)
      have Kq := Lib.hid (Kq.out.ext hy)
      have Kr := Lib.hid (Kr.out.ext hy)
      have Vu := Lib.hid (Vu.out.ext hy)
      have Vv := Lib.hid (Vv.out.ext hy)
      have Ku := Lib.hid (Ku.out.ext hy)
      have Kv := Lib.hid (Kv.out.ext hy)
      have Vx := Lib.hid (Vx.out.ext hy)
      have Kx := Lib.hid (Kx.out.ext hy)
      have Vn := Lib.hid (Vn.out.ext hy)
      have Kn := Lib.hid (Kn.out.ext hy)
      have Ke := Lib.hid (Ke.out.ext hy)
      have Vk := Lib.hid (Vk.out.ext hy)
      have Kk := Lib.hid (Kk.out.ext hy)
      clear hy
      clear ce0 ce1
      go_upto_region 26 with fail
      have cq0 := Kq.out.cell (i := 0) (v := .bool nq) rfl
      have cq1 := Kq.out.cell (i := 1) (v := .slice aq qq cq) rfl
      have cr0 := Kr.out.cell (i := 0) (v := .bool nr) rfl
      have cr1 := Kr.out.cell (i := 1) (v := .slice ar qr cr) rfl
      have cu0 := Ku.out.cell (i := 0) (v := .bool nu) rfl
      have cu1 := Ku.out.cell (i := 1) (v := .slice au qu cu) rfl
      have cv0 := Kv.out.cell (i := 0) (v := .bool nv) rfl
      have cv1 := Kv.out.cell (i := 1) (v := .slice av qv cv) rfl
      have cx0 := Kx.out.cell (i := 0) (v := .bool nx) rfl
      have cx1 := Kx.out.cell (i := 1) (v := .slice ax qx cx) rfl
      have cn0 := Kn.out.cell (i := 0) (v := .bool nn) rfl
      have cn1 := Kn.out.cell (i := 1) (v := .slice an qn cn) rfl
      have hE : Ext x36 x36.drew := (Ext.refl _).drew
      clear Va Ka Vm Km Kq Kr Ku Kv Kx Kn Ke Vk Kk
      refine wp_region_held_drew (S := (fun w' => w'.cell? ⟨x10.heap.size, 0, none⟩ = some (.bool nq) ∧ w'.cell? ⟨x10.heap.size, 1, none⟩ = some (.slice aq qq cq) ∧ w'.cell? ⟨x10.heap.size + 1, 0, none⟩ = some (.bool nr) ∧ w'.cell? ⟨x10.heap.size + 1, 1, none⟩ = some (.slice ar qr cr) ∧ w'.cell? ⟨x14.heap.size, 0, none⟩ = some (.bool nu) ∧ w'.cell? ⟨x14.heap.size, 1, none⟩ = some (.slice au qu cu) ∧ w'.cell? ⟨x14.heap.size + 1, 0, none⟩ = some (.bool nv) ∧ w'.cell? ⟨x14.heap.size + 1, 1, none⟩ = some (.slice av qv cv) ∧ w'.cell? ⟨px, 0, none⟩ = some (.bool nx) ∧ w'.cell? ⟨px, 1, none⟩ = some (.slice ax qx cx) ∧ w'.cell? ⟨pn, 0, none⟩ = some (.bool nn) ∧ w'.cell? ⟨pn, 1, none⟩ = some (.slice an qn cn))) (by kernel_rfl) ?_ (fun hHeld => ?_)
      · (first | exact ⟨cell_ext hy hHeld.1, cell_ext hy hHeld.2.1, cell_ext hy hHeld.2.2.1, cell_ext hy hHeld.2.2.2.1, cell_ext hy hHeld.2.2.2.2.1, cell_ext hy hHeld.2.2.2.2.2.1, cell_ext hy hHeld.2.2.2.2.2.2.1, cell_ext hy hHeld.2.2.2.2.2.2.2.1, cell_ext hy hHeld.2.2.2.2.2.2.2.2.1, cell_ext hy hHeld.2.2.2.2.2.2.2.2.2.1, cell_ext hy hHeld.2.2.2.2.2.2.2.2.2.2.1, cell_ext hy hHeld.2.2.2.2.2.2.2.2.2.2.2⟩ | exact ⟨cq0, cq1, cr0, cr1, cu0, cu1, cv0, cv1, cx0, cx1, cn0, cn1⟩ | exact hHeld | exact ⟨cell_ext (Ext.alloc _ _) hHeld.1, cell_ext (Ext.alloc _ _) hHeld.2.1, cell_ext (Ext.alloc _ _) hHeld.2.2.1, cell_ext (Ext.alloc _ _) hHeld.2.2.2.1, cell_ext (Ext.alloc _ _) hHeld.2.2.2.2.1, cell_ext (Ext.alloc _ _) hHeld.2.2.2.2.2.1, cell_ext (Ext.alloc _ _) hHeld.2.2.2.2.2.2.1, cell_ext (Ext.alloc _ _) hHeld.2.2.2.2.2.2.2.1, cell_ext (Ext.alloc _ _) hHeld.2.2.2.2.2.2.2.2.1, cell_ext (Ext.alloc _ _) hHeld.2.2.2.2.2.2.2.2.2.1, cell_ext (Ext.alloc _ _) hHeld.2.2.2.2.2.2.2.2.2.2.1, cell_ext (Ext.alloc _ _) hHeld.2.2.2.2.2.2.2.2.2.2.2⟩)
      refine wpAnyH_take (i := 0) (oi := _) (v := ?_) rfl (by kernel_rfl) (by kernel_rfl) (by kernel_rfl) (fun _ _ _ h => h) (Or.inl ⟨by rfl, ?_⟩) (by assumption) ?_
      rotate_left
      · (intro w hSw; (try dsimp only at hSw); (try go_simp); (try with_reducible rfl))
      (try simp only [Act.put, List.getElem_toArray, List.getElem_cons_succ, List.getElem_cons_zero, List.setIfInBounds_toArray, List.set_cons_zero, List.set_cons_succ])
      refine wpAnyH_ready (rs := [1]) (by kernel_rfl) (by simp) ?_
      refine AllReadyH.cons (o := _) rfl (fun K hK => ?_) ?_
      · go_simp
        refine (nat_Make (-4) _ (by omega)).mono ?_; rintro e z1 ⟨v1, rfl, hv1, hy⟩; have hE := hE.trans hy; have hvv := hv1.val; obtain ⟨nz, az, qz, cz, rfl⟩ := hvv.form
        refine hK.out _ _ ?_ (fun hHeld2 => ?_)
        · (first | exact ⟨cell_ext hy hHeld.1, cell_ext hy hHeld.2.1, cell_ext hy hHeld.2.2.1, cell_ext hy hHeld.2.2.2.1, cell_ext hy hHeld.2.2.2.2.1, cell_ext hy hHeld.2.2.2.2.2.1, cell_ext hy hHeld.2.2.2.2.2.2.1, cell_ext hy hHeld.2.2.2.2.2.2.2.1, cell_ext hy hHeld.2.2.2.2.2.2.2.2.1, cell_ext hy hHeld.2.2.2.2.2.2.2.2.2.1, cell_ext hy hHeld.2.2.2.2.2.2.2.2.2.2.1, cell_ext hy hHeld.2.2.2.2.2.2.2.2.2.2.2⟩ | exact ⟨cq0, cq1, cr0, cr1, cu0, cu1, cv0, cv1, cx0, cx1, cn0, cn1⟩ | exact hHeld | exact ⟨cell_ext (Ext.alloc _ _) hHeld.1, cell_ext (Ext.alloc _ _) hHeld.2.1, cell_ext (Ext.alloc _ _) hHeld.2.2.1, cell_ext (Ext.alloc _ _) hHeld.2.2.2.1, cell_ext (Ext.alloc _ _) hHeld.2.2.2.2.1, cell_ext (Ext.alloc _ _) hHeld.2.2.2.2.2.1, cell_ext (Ext.alloc _ _) hHeld.2.2.2.2.2.2.1, cell_ext (Ext.alloc _ _) hHeld.2.2.2.2.2.2.2.1, cell_ext (Ext.alloc _ _) hHeld.2.2.2.2.2.2.2.2.1, cell_ext (Ext.alloc _ _) hHeld.2.2.2.2.2.2.2.2.2.1, cell_ext (Ext.alloc _ _) hHeld.2.2.2.2.2.2.2.2.2.2.1, cell_ext (Ext.alloc _ _) hHeld.2.2.2.2.2.2.2.2.2.2.2⟩)
        clear hK K hHeld
        have hHeld := hHeld2
        clear hHeld2
        (try simp only [Act.put, List.getElem_toArray, List.getElem_cons_succ, List.getElem_cons_zero, List.setIfInBounds_toArray, List.set_cons_zero, List.set_cons_succ])
        refine wpAnyH_ready (rs := [2]) (by kernel_rfl) (by simp) ?_
        refine AllReadyH.cons (o := _) rfl (fun K hK => ?_) ?_
        · go_simp
          refine (sameT (BigV.ext Vq.out hE) hvv rfl).mono ?_; rintro e z2 ⟨rfl, hy⟩; have hE := hE.trans hy; clear hvv
          refine hK.out _ _ ?_ (fun hHeld2 => ?_)
          · (first | exact ⟨cell_ext hy hHeld.1, cell_ext hy hHeld.2.1, cell_ext hy hHeld.2.2.1, cell_ext hy hHeld.2.2.2.1, cell_ext hy hHeld.2.2.2.2.1, cell_ext hy hHeld.2.2.2.2.2.1, cell_ext hy hHeld.2.2.2.2.2.2.1, cell_ext hy hHeld.2.2.2.2.2.2.2.1, cell_ext hy hHeld.2.2.2.2.2.2.2.2.1, cell_ext hy hHeld.2.2.2.2.2.2.2.2.2.1, cell_ext hy hHeld.2.2.2.2.2.2.2.2.2.2.1, cell_ext hy hHeld.2.2.2.2.2.2.2.2.2.2.2⟩ | exact ⟨cq0, cq1, cr0, cr1, cu0, cu1, cv0, cv1, cx0, cx1, cn0, cn1⟩ | exact hHeld | exact ⟨cell_ext (Ext.alloc _ _) hHeld.1, cell_ext (Ext.alloc _ _) hHeld.2.1, cell_ext (Ext.alloc _ _) hHeld.2.2.1, cell_ext (Ext.alloc _ _) hHeld.2.2.2.1, cell_ext (Ext.alloc _ _) hHeld.2.2.2.2.1, cell_ext (Ext.alloc _ _) hHeld.2.2.2.2.2.1, cell_ext (Ext.alloc _ _) hHeld.2.2.2.2.2.2.1, cell_ext (Ext.alloc _ _) hHeld.2.2.2.2.2.2.2.1, cell_ext (Ext.alloc _ _) hHeld.2.2.2.2.2.2.2.2.1, cell_ext (Ext.alloc _ _) hHeld.2.2.2.2.2.2.2.2.2.1, cell_ext (Ext.alloc _ _) hHeld.2.2.2.2.2.2.2.2.2.2.1, cell_ext (Ext.alloc _ _) hHeld.2.2.2.2.2.2.2.2.2.2.2⟩)
          clear hK K hHeld
          have hHeld := hHeld2
          clear hHeld2
          (try simp only [Act.put, List.getElem_toArray, List.getElem_cons_succ, List.getElem_cons_zero, List.setIfInBounds_toArray, List.set_cons_zero, List.set_cons_succ])
          refine wpAnyH_take (i := 3) (oi := _) (v := ?_) rfl (by kernel_rfl) (by kernel_rfl) (by kernel_rfl) (fun _ _ _ h => h) (Or.inl ⟨by rfl, ?_⟩) (by assumption) ?_
          rotate_left
          · (intro w hSw; (try dsimp only at hSw); (try go_simp); (try with_reducible rfl))
          (try simp only [Act.put, List.getElem_toArray, List.getElem_cons_succ, List.getElem_cons_zero, List.setIfInBounds_toArray, List.set_cons_zero, List.set_cons_succ])
          refine wpAnyH_take (i := 4) (oi := _) (v := ?_) rfl (by kernel_rfl) (by kernel_rfl) (by kernel_rfl) (fun _ _ _ h => h) (Or.inl ⟨by rfl, ?_⟩) (by assumption) ?_
          rotate_left
          · (intro w hSw; (try dsimp only at hSw); (try go_simp); (try with_reducible rfl))
          (try simp only [Act.put, List.getElem_toArray, List.getElem_cons_succ, List.getElem_cons_zero, List.setIfInBounds_toArray, List.set_cons_zero, List.set_cons_succ])
          refine wpAnyH_ready (rs := [5]) (by kernel_rfl) (by simp) ?_
          refine AllReadyH.cons (o := _) rfl (fun K hK => ?_) ?_
          · go_simp
            refine (nat_Make (1) _ (by omega)).mono ?_; rintro e z3 ⟨v3, rfl, hv3, hy⟩; have hE := hE.trans hy; have hvv := hv3.val; obtain ⟨nz, az, qz, cz, rfl⟩ := hvv.form
            refine hK.out _ _ ?_ (fun hHeld2 => ?_)
            · (first | exact ⟨cell_ext hy hHeld.1, cell_ext hy hHeld.2.1, cell_ext hy hHeld.2.2.1, cell_ext hy hHeld.2.2.2.1, cell_ext hy hHeld.2.2.2.2.1, cell_ext hy hHeld.2.2.2.2.2.1, cell_ext hy hHeld.2.2.2.2.2.2.1, cell_ext hy hHeld.2.2.2.2.2.2.2.1, cell_ext hy hHeld.2.2.2.2.2.2.2.2.1, cell_ext hy hHeld.2.2.2.2.2.2.2.2.2.1, cell_ext hy hHeld.2.2.2.2.2.2.2.2.2.2.1, cell_ext hy hHeld.2.2.2.2.2.2.2.2.2.2.2⟩ | exact ⟨cq0, cq1, cr0, cr1, cu0, cu1, cv0, cv1, cx0, cx1, cn0, cn1⟩ | exact hHeld | exact ⟨cell_ext (Ext.alloc _ _) hHeld.1, cell_ext (Ext.alloc _ _) hHeld.2.1, cell_ext (Ext.alloc _ _) hHeld.2.2.1, cell_ext (Ext.alloc _ _) hHeld.2.2.2.1, cell_ext (Ext.alloc _ _) hHeld.2.2.2.2.1, cell_ext (Ext.alloc _ _) hHeld.2.2.2.2.2.1, cell_ext (Ext.alloc _ _) hHeld.2.2.2.2.2.2.1, cell_ext (Ext.alloc _ _) hHeld.2.2.2.2.2.2.2.1, cell_ext (Ext.alloc _ _) hHeld.2.2.2.2.2.2.2.2.1, cell_ext (Ext.alloc _ _) hHeld.2.2.2.2.2.2.2.2.2.1, cell_ext (Ext.alloc _ _) hHeld.2.2.2.2.2.2.2.2.2.2.1, cell_ext (Ext.alloc _ _) hHeld.2.2.2.2.2.2.2.2.2.2.2⟩)
            clear hK K hHeld
            have hHeld := hHeld2
            clear hHeld2
            (try simp only [Act.put, List.getElem_toArray, List.getElem_cons_succ, List.getElem_cons_zero, List.setIfInBounds_toArray, List.set_cons_zero, List.set_cons_succ])
            refine wpAnyH_ready (rs := [6]) (by kernel_rfl) (by simp) ?_
            refine AllReadyH.cons (o := _) rfl (fun K hK => ?_) ?_
            · go_simp
              refine (sameT (BigV.ext Vr.out hE) hvv rfl).mono ?_; rintro e z4 ⟨rfl, hy⟩; have hE := hE.trans hy; clear hvv
              refine hK.out _ _ ?_ (fun hHeld2 => ?_)
              · (first | exact ⟨cell_ext hy hHeld.1, cell_ext hy hHeld.2.1, cell_ext hy hHeld.2.2.1, cell_ext hy hHeld.2.2.2.1, cell_ext hy hHeld.2.2.2.2.1, cell_ext hy hHeld.2.2.2.2.2.1, cell_ext hy hHeld.2.2.2.2.2.2.1, cell_ext hy hHeld.2.2.2.2.2.2.2.1, cell_ext hy hHeld.2.2.2.2.2.2.2.2.1, cell_ext hy hHeld.2.2.2.2.2.2.2.2.2.1, cell_ext hy hHeld.2.2.2.2.2.2.2.2.2.2.1, cell_ext hy hHeld.2.2.2.2.2.2.2.2.2.2.2⟩ | exact ⟨cq0, cq1, cr0, cr1, cu0, cu1, cv0, cv1, cx0, cx1, cn0, cn1⟩ | exact hHeld | exact ⟨cell_ext (Ext.alloc _ _) hHeld.1, cell_ext (Ext.alloc _ _) hHeld.2.1, cell_ext (Ext.alloc _ _) hHeld.2.2.1, cell_ext (Ext.alloc _ _) hHeld.2.2.2.1, cell_ext (Ext.alloc _ _) hHeld.2.2.2.2.1, cell_ext (Ext.alloc _ _) hHeld.2.2.2.2.2.1, cell_ext (Ext.alloc _ _) hHeld.2.2.2.2.2.2.1, cell_ext (Ext.alloc _ _) hHeld.2.2.2.2.2.2.2.1, cell_ext (Ext.alloc _ _) hHeld.2.2.2.2.2.2.2.2.1, cell_ext (Ext.alloc _ _) hHeld.2.2.2.2.2.2.2.2.2.1, cell_ext (Ext.alloc _ _) hHeld.2.2.2.2.2.2.2.2.2.2.1, cell_ext (Ext.alloc _ _) hHeld.2.2.2.2.2.2.2.2.2.2.2⟩)
              clear hK K hHeld
              have hHeld := hHeld2
              clear hHeld2
              (try simp only [Act.put, List.getElem_toArray, List.getElem_cons_succ, List.getElem_cons_zero, List.setIfInBounds_toArray, List.set_cons_zero, List.set_cons_succ])
              refine wpAnyH_take (i := 7) (oi := _) (v := ?_) rfl (by kernel_rfl) (by kernel_rfl) (by kernel_rfl) (fun _ _ _ h => h) (Or.inl ⟨by rfl, ?_⟩) (by assumption) ?_
              rotate_left
              · (intro w hSw; (try dsimp only at hSw); (try go_simp); (try with_reducible rfl))
              (try simp only [Act.put, List.getElem_toArray, List.getElem_cons_succ, List.getElem_cons_zero, List.setIfInBounds_toArray, List.set_cons_zero, List.set_cons_succ])
              refine wpAnyH_take (i := 8) (oi := _) (v := ?_) rfl (by kernel_rfl) (by kernel_rfl) (by kernel_rfl) (fun _ _ _ h => h) (Or.inl ⟨by rfl, ?_⟩) (by assumption) ?_
              rotate_left
              · (intro w hSw; (try dsimp only at hSw); (try go_simp); (try with_reducible rfl))
              (try simp only [Act.put, List.getElem_toArray, List.getElem_cons_succ, List.getElem_cons_zero, List.setIfInBounds_toArray, List.set_cons_zero, List.set_cons_succ])
              refine wpAnyH_take (i := 9) (oi := _) (v := ?_) rfl (by kernel_rfl) (by kernel_rfl) (by kernel_rfl) (fun _ _ _ h => h) (Or.inl ⟨by rfl, ?_⟩) (by assumption) ?_
              rotate_left
              · (intro w hSw; (try dsimp only at hSw); (try go_simp); (try with_reducible rfl))
              (try simp only [Act.put, List.getElem_toArray, List.getElem_cons_succ, List.getElem_cons_zero, List.setIfInBounds_toArray, List.set_cons_zero, List.set_cons_succ])
              refine wpAnyH_ready (rs := [10]) (by kernel_rfl) (by simp) ?_
              refine AllReadyH.cons (o := _) rfl (fun K hK => ?_) ?_
              · go_simp
                refine (nat_Make (4) _ (by omega)).mono ?_; rintro e z5 ⟨v5, rfl, hv5, hy⟩; have hE := hE.trans hy; have hvv := hv5.val; obtain ⟨nz, az, qz, cz, rfl⟩ := hvv.form
                refine hK.out _ _ ?_ (fun hHeld2 => ?_)
                · (first | exact ⟨cell_ext hy hHeld.1, cell_ext hy hHeld.2.1, cell_ext hy hHeld.2.2.1, cell_ext hy hHeld.2.2.2.1, cell_ext hy hHeld.2.2.2.2.1, cell_ext hy hHeld.2.2.2.2.2.1, cell_ext hy hHeld.2.2.2.2.2.2.1, cell_ext hy hHeld.2.2.2.2.2.2.2.1, cell_ext hy hHeld.2.2.2.2.2.2.2.2.1, cell_ext hy hHeld.2.2.2.2.2.2.2.2.2.1, cell_ext hy hHeld.2.2.2.2.2.2.2.2.2.2.1, cell_ext hy hHeld.2.2.2.2.2.2.2.2.2.2.2⟩ | exact ⟨cq0, cq1, cr0, cr1, cu0, cu1, cv0, cv1, cx0, cx1, cn0, cn1⟩ | exact hHeld | exact ⟨cell_ext (Ext.alloc _ _) hHeld.1, cell_ext (Ext.alloc _ _) hHeld.2.1, cell_ext (Ext.alloc _ _) hHeld.2.2.1, cell_ext (Ext.alloc _ _) hHeld.2.2.2.1, cell_ext (Ext.alloc _ _) hHeld.2.2.2.2.1, cell_ext (Ext.alloc _ _) hHeld.2.2.2.2.2.1, cell_ext (Ext.alloc _ _) hHeld.2.2.2.2.2.2.1, cell_ext (Ext.alloc _ _) hHeld.2.2.2.2.2.2.2.1, cell_ext (Ext.alloc _ _) hHeld.2.2.2.2.2.2.2.2.1, cell_ext (Ext.alloc _ _) hHeld.2.2.2.2.2.2.2.2.2.1, cell_ext (Ext.alloc _ _) hHeld.2.2.2.2.2.2.2.2.2.2.1, cell_ext (Ext.alloc _ _) hHeld.2.2.2.2.2.2.2.2.2.2.2⟩)
                clear hK K hHeld
                have hHeld := hHeld2
                clear hHeld2
                (try simp only [Act.put, List.getElem_toArray, List.getElem_cons_succ, List.getElem_cons_zero, List.setIfInBounds_toArray, List.set_cons_zero, List.set_cons_succ])
                refine wpAnyH_ready (rs := [11]) (by kernel_rfl) (by simp) ?_
                refine AllReadyH.cons (o := _) rfl (fun K hK => ?_) ?_
                · go_simp
                  refine (sameT (BigV.ext Vu.out hE) hvv rfl).mono ?_; rintro e z6 ⟨rfl, hy⟩; have hE := hE.trans hy; clear hvv
                  refine hK.out _ _ ?_ (fun hHeld2 => ?_)
                  · (first | exact ⟨cell_ext hy hHeld.1, cell_ext hy hHeld.2.1, cell_ext hy hHeld.2.2.1, cell_ext hy hHeld.2.2.2.1, cell_ext hy hHeld.2.2.2.2.1, cell_ext hy hHeld.2.2.2.2.2.1, cell_ext hy hHeld.2.2.2.2.2.2.1, cell_ext hy hHeld.2.2.2.2.2.2.2.1, cell_ext hy hHeld.2.2.2.2.2.2.2.2.1, cell_ext hy hHeld.2.2.2.2.2.2.2.2.2.1, cell_ext hy hHeld.2.2.2.2.2.2.2.2.2.2.1, cell_ext hy hHeld.2.2.2.2.2.2.2.2.2.2.2⟩ | exact ⟨cq0, cq1, cr0, cr1, cu0, cu1, cv0, cv1, cx0, cx1, cn0, cn1⟩ | exact hHeld | exact ⟨cell_ext (Ext.alloc _ _) hHeld.1, cell_ext (Ext.alloc _ _) hHeld.2.1, cell_ext (Ext.alloc _ _) hHeld.2.2.1, cell_ext (Ext.alloc _ _) hHeld.2.2.2.1, cell_ext (Ext.alloc _ _) hHeld.2.2.2.2.1, cell_ext (Ext.alloc _ _) hHeld.2.2.2.2.2.1, cell_ext (Ext.alloc _ _) hHeld.2.2.2.2.2.2.1, cell_ext (Ext.alloc _ _) hHeld.2.2.2.2.2.2.2.1, cell_ext (Ext.alloc _ _) hHeld.2.2.2.2.2.2.2.2.1, cell_ext (Ext.alloc _ _) hHeld.2.2.2.2.2.2.2.2.2.1, cell_ext (Ext.alloc _ _) hHeld.2.2.2.2.2.2.2.2.2.2.1, cell_ext (Ext.alloc _ _) hHeld.2.2.2.2.2.2.2.2.2.2.2⟩)
                  clear hK K hHeld
                  have hHeld := hHeld2
                  clear hHeld2
                  (try simp only [Act.put, List.getElem_toArray, List.getElem_cons_succ, List.getElem_cons_zero, List.setIfInBounds_toArray, List.set_cons_zero, List.set_cons_succ])
                  refine wpAnyH_take (i := 12) (oi := _) (v := ?_) rfl (by kernel_rfl) (by kernel_rfl) (by kernel_rfl) (fun _ _ _ h => h) (Or.inl ⟨by rfl, ?_⟩) (by assumption) ?_
                  rotate_left
                  · (intro w hSw; (try dsimp only at hSw); (try go_simp); (try with_reducible rfl))
                  (try simp only [Act.put, List.getElem_toArray, List.getElem_cons_succ, List.getElem_cons_zero, List.setIfInBounds_toArray, List.set_cons_zero, List.set_cons_succ])
                  refine wpAnyH_take (i := 13) (oi := _) (v := ?_) rfl (by kernel_rfl) (by kernel_rfl) (by kernel_rfl) (fun _ _ _ h => h) (Or.inl ⟨by rfl, ?_⟩) (by assumption) ?_
                  rotate_left
                  · (intro w hSw; (try dsimp only at hSw); (try go_simp); (try with_reducible rfl))
                  (try simp only [Act.put, List.getElem_toArray, List.getElem_cons_succ, List.getElem_cons_zero, List.setIfInBounds_toArray, List.set_cons_zero, List.set_cons_succ])
                  refine wpAnyH_take (i := 14) (oi := _) (v := ?_) rfl (by kernel_rfl) (by kernel_rfl) (by kernel_rfl) (fun _ _ _ h => h) (Or.inl ⟨by rfl, ?_⟩) (by assumption) ?_
                  rotate_left
                  · (intro w hSw; (try dsimp only at hSw); (try go_simp); (try with_reducible rfl))
                  (try simp only [Act.put, List.getElem_toArray, List.getElem_cons_succ, List.getElem_cons_zero, List.setIfInBounds_toArray, List.set_cons_zero, List.set_cons_succ])
                  refine wpAnyH_ready (rs := [15]) (by kernel_rfl) (by simp) ?_
                  refine AllReadyH.cons (o := _) rfl (fun K hK => ?_) ?_
                  · go_simp
                    refine (nat_Make (1) _ (by omega)).mono ?_; rintro e z7 ⟨v7, rfl, hv7, hy⟩; have hE := hE.trans hy; have hvv := hv7.val; obtain ⟨nz, az, qz, cz, rfl⟩ := hvv.form
                    refine hK.out _ _ ?_ (fun hHeld2 => ?_)
                    · (first | exact ⟨cell_ext hy hHeld.1, cell_ext hy hHeld.2.1, cell_ext hy hHeld.2.2.1, cell_ext hy hHeld.2.2.2.1, cell_ext hy hHeld.2.2.2.2.1, cell_ext hy hHeld.2.2.2.2.2.1, cell_ext hy hHeld.2.2.2.2.2.2.1, cell_ext hy hHeld.2.2.2.2.2.2.2.1, cell_ext hy hHeld.2.2.2.2.2.2.2.2.1, cell_ext hy hHeld.2.2.2.2.2.2.2.2.2.1, cell_ext hy hHeld.2.2.2.2.2.2.2.2.2.2.1, cell_ext hy hHeld.2.2.2.2.2.2.2.2.2.2.2⟩ | exact ⟨cq0, cq1, cr0, cr1, cu0, cu1, cv0, cv1, cx0, cx1, cn0, cn1⟩ | exact hHeld | exact ⟨cell_ext (Ext.alloc _ _) hHeld.1, cell_ext (Ext.alloc _ _) hHeld.2.1, cell_ext (Ext.alloc _ _) hHeld.2.2.1, cell_ext (Ext.alloc _ _) hHeld.2.2.2.1, cell_ext (Ext.alloc _ _) hHeld.2.2.2.2.1, cell_ext (Ext.alloc _ _) hHeld.2.2.2.2.2.1, cell_ext (Ext.alloc _ _) hHeld.2.2.2.2.2.2.1, cell_ext (Ext.alloc _ _) hHeld.2.2.2.2.2.2.2.1, cell_ext (Ext.alloc _ _) hHeld.2.2.2.2.2.2.2.2.1, cell_ext (Ext.alloc _ _) hHeld.2.2.2.2.2.2.2.2.2.1, cell_ext (Ext.alloc _ _) hHeld.2.2.2.2.2.2.2.2.2.2.1, cell_ext (Ext.alloc _ _) hHeld.2.2.2.2.2.2.2.2.2.2.2⟩)
                    clear hK K hHeld
                    have hHeld := hHeld2
                    clear hHeld2
                    (try simp only [Act.put, List.getElem_toArray, List.getElem_cons_succ, List.getElem_cons_zero, List.setIfInBounds_toArray, List.set_cons_zero, List.set_cons_succ])
                    refine wpAnyH_ready (rs := [16]) (by kernel_rfl) (by simp) ?_
                    refine AllReadyH.cons (o := _) rfl (fun K hK => ?_) ?_
                    · go_simp
                      refine (sameT (BigV.ext Vv.out hE) hvv rfl).mono ?_; rintro e z8 ⟨rfl, hy⟩; have hE := hE.trans hy; clear hvv
                      refine hK.out _ _ ?_ (fun hHeld2 => ?_)
                      · (first | exact ⟨cell_ext hy hHeld.1, cell_ext hy hHeld.2.1, cell_ext hy hHeld.2.2.1, cell_ext hy hHeld.2.2.2.1, cell_ext hy hHeld.2.2.2.2.1, cell_ext hy hHeld.2.2.2.2.2.1, cell_ext hy hHeld.2.2.2.2.2.2.1, cell_ext hy hHeld.2.2.2.2.2.2.2.1, cell_ext hy hHeld.2.2.2.2.2.2.2.2.1, cell_ext hy hHeld.2.2.2.2.2.2.2.2.2.1, cell_ext hy hHeld.2.2.2.2.2.2.2.2.2.2.1, cell_ext hy hHeld.2.2.2.2.2.2.2.2.2.2.2⟩ | exact ⟨cq0, cq1, cr0, cr1, cu0, cu1, cv0, cv1, cx0, cx1, cn0, cn1⟩ | exact hHeld | exact ⟨cell_ext (Ext.alloc _ _) hHeld.1, cell_ext (Ext.alloc _ _) hHeld.2.1, cell_ext (Ext.alloc _ _) hHeld.2.2.1, cell_ext (Ext.alloc _ _) hHeld.2.2.2.1, cell_ext (Ext.alloc _ _) hHeld.2.2.2.2.1, cell_ext (Ext.alloc _ _) hHeld.2.2.2.2.2.1, cell_ext (Ext.alloc _ _) hHeld.2.2.2.2.2.2.1, cell_ext (Ext.alloc _ _) hHeld.2.2.2.2.2.2.2.1, cell_ext (Ext.alloc _ _) hHeld.2.2.2.2.2.2.2.2.1, cell_ext (Ext.alloc _ _) hHeld.2.2.2.2.2.2.2.2.2.1, cell_ext (Ext.alloc _ _) hHeld.2.2.2.2.2.2.2.2.2.2.1, cell_ext (Ext.alloc _ _) hHeld.2.2.2.2.2.2.2.2.2.2.2⟩)
                      clear hK K hHeld
                      have hHeld := hHeld2
                      clear hHeld2
                      (try simp only [Act.put, List.getElem_toArray, List.getElem_cons_succ, List.getElem_cons_zero, List.setIfInBounds_toArray, List.set_cons_zero, List.set_cons_succ])
                      refine wpAnyH_take (i := 17) (oi := _) (v := ?_) rfl (by kernel_rfl) (by kernel_rfl) (by kernel_rfl) (fun _ _ _ h => h) (Or.inl ⟨by rfl, ?_⟩) (by assumption) ?_
                      rotate_left
                      · (intro w hSw; (try dsimp only at hSw); (try go_simp); (try with_reducible rfl))
                      (try simp only [Act.put, List.getElem_toArray, List.getElem_cons_succ, List.getElem_cons_zero, List.setIfInBounds_toArray, List.set_cons_zero, List.set_cons_succ])
                      refine wpAnyH_take (i := 18) (oi := _) (v := ?_) rfl (by kernel_rfl) (by kernel_rfl) (by kernel_rfl) (fun _ _ _ h => h) (Or.inl ⟨by rfl, ?_⟩) (by assumption) ?_
                      rotate_left
                      · (intro w hSw; (try dsimp only at hSw); (try go_simp); (try with_reducible rfl))
                      (try simp only [Act.put, List.getElem_toArray, List.getElem_cons_succ, List.getElem_cons_zero, List.setIfInBounds_toArray, List.set_cons_zero, List.set_cons_succ])
                      refine wpAnyH_take (i := 19) (oi := _) (v := ?_) rfl (by kernel_rfl) (by kernel_rfl) (by kernel_rfl) (fun _ _ _ h => h) (Or.inl ⟨by rfl, ?_⟩) (by assumption) ?_
                      rotate_left
                      · (intro w hSw; (try dsimp only at hSw); (try go_simp); (try with_reducible rfl))
                      (try simp only [Act.put, List.getElem_toArray, List.getElem_cons_succ, List.getElem_cons_zero, List.setIfInBounds_toArray, List.set_cons_zero, List.set_cons_succ])
                      refine wpAnyH_ready (rs := [20]) (by kernel_rfl) (by simp) ?_
                      refine AllReadyH.cons (o := _) rfl (fun K hK => ?_) ?_
                      · go_simp
                        refine (nat_Make (6) _ (by omega)).mono ?_; rintro e z9 ⟨v9, rfl, hv9, hy⟩; have hE := hE.trans hy; have hvv := hv9.val; obtain ⟨nz, az, qz, cz, rfl⟩ := hvv.form
                        refine hK.out _ _ ?_ (fun hHeld2 => ?_)
                        · (first | exact ⟨cell_ext hy hHeld.1, cell_ext hy hHeld.2.1, cell_ext hy hHeld.2.2.1, cell_ext hy hHeld.2.2.2.1, cell_ext hy hHeld.2.2.2.2.1, cell_ext hy hHeld.2.2.2.2.2.1, cell_ext hy hHeld.2.2.2.2.2.2.1, cell_ext hy hHeld.2.2.2.2.2.2.2.1, cell_ext hy hHeld.2.2.2.2.2.2.2.2.1, cell_ext hy hHeld.2.2.2.2.2.2.2.2.2.1, cell_ext hy hHeld.2.2.2.2.2.2.2.2.2.2.1, cell_ext hy hHeld.2.2.2.2.2.2.2.2.2.2.2⟩ | exact ⟨cq0, cq1, cr0, cr1, cu0, cu1, cv0, cv1, cx0, cx1, cn0, cn1⟩ | exact hHeld | exact ⟨cell_ext (Ext.alloc _ _) hHeld.1, cell_ext (Ext.alloc _ _) hHeld.2.1, cell_ext (Ext.alloc _ _) hHeld.2.2.1, cell_ext (Ext.alloc _ _) hHeld.2.2.2.1, cell_ext (Ext.alloc _ _) hHeld.2.2.2.2.1, cell_ext (Ext.alloc _ _) hHeld.2.2.2.2.2.1, cell_ext (Ext.alloc _ _) hHeld.2.2.2.2.2.2.1, cell_ext (Ext.alloc _ _) hHeld.2.2.2.2.2.2.2.1, cell_ext (Ext.alloc _ _) hHeld.2.2.2.2.2.2.2.2.1, cell_ext (Ext.alloc _ _) hHeld.2.2.2.2.2.2.2.2.2.1, cell_ext (Ext.alloc _ _) hHeld.2.2.2.2.2.2.2.2.2.2.1, cell_ext (Ext.alloc _ _) hHeld.2.2.2.2.2.2.2.2.2.2.2⟩)
                        clear hK K hHeld
                        have hHeld := hHeld2
                        clear hHeld2
                        (try simp only [Act.put, List.getElem_toArray, List.getElem_cons_succ, List.getElem_cons_zero, List.setIfInBounds_toArray, List.set_cons_zero, List.set_cons_succ])
                        refine wpAnyH_ready (rs := [21]) (by kernel_rfl) (by simp) ?_
                        refine AllReadyH.cons (o := _) rfl (fun K hK => ?_) ?_
                        · go_simp
                          refine (sameT (BigV.ext Vx.out hE) hvv rfl).mono ?_; rintro e z10 ⟨rfl, hy⟩; have hE := hE.trans hy; clear hvv
                          refine hK.out _ _ ?_ (fun hHeld2 => ?_)
                          · (first | exact ⟨cell_ext hy hHeld.1, cell_ext hy hHeld.2.1, cell_ext hy hHeld.2.2.1, cell_ext hy hHeld.2.2.2.1, cell_ext hy hHeld.2.2.2.2.1, cell_ext hy hHeld.2.2.2.2.2.1, cell_ext hy hHeld.2.2.2.2.2.2.1, cell_ext hy hHeld.2.2.2.2.2.2.2.1, cell_ext hy hHeld.2.2.2.2.2.2.2.2.1, cell_ext hy hHeld.2.2.2.2.2.2.2.2.2.1, cell_ext hy hHeld.2.2.2.2.2.2.2.2.2.2.1, cell_ext hy hHeld.2.2.2.2.2.2.2.2.2.2.2⟩ | exact ⟨cq0, cq1, cr0, cr1, cu0, cu1, cv0, cv1, cx0, cx1, cn0, cn1⟩ | exact hHeld | exact ⟨cell_ext (Ext.alloc _ _) hHeld.1, cell_ext (Ext.alloc _ _) hHeld.2.1, cell_ext (Ext.alloc _ _) hHeld.2.2.1, cell_ext (Ext.alloc _ _) hHeld.2.2.2.1, cell_ext (Ext.alloc _ _) hHeld.2.2.2.2.1, cell_ext (Ext.alloc _ _) hHeld.2.2.2.2.2.1, cell_ext (Ext.alloc _ _) hHeld.2.2.2.2.2.2.1, cell_ext (Ext.alloc _ _) hHeld.2.2.2.2.2.2.2.1, cell_ext (Ext.alloc _ _) hHeld.2.2.2.2.2.2.2.2.1, cell_ext (Ext.alloc _ _) hHeld.2.2.2.2.2.2.2.2.2.1, cell_ext (Ext.alloc _ _) hHeld.2.2.2.2.2.2.2.2.2.2.1, cell_ext (Ext.alloc _ _) hHeld.2.2.2.2.2.2.2.2.2.2.2⟩)
                          clear hK K hHeld
                          have hHeld := hHeld2
                          clear hHeld2
                          (try simp only [Act.put, List.getElem_toArray, List.getElem_cons_succ, List.getElem_cons_zero, List.setIfInBounds_toArray, List.set_cons_zero, List.set_cons_succ])
                          refine wpAnyH_take (i := 22) (oi := _) (v := ?_) rfl (by kernel_rfl) (by kernel_rfl) (by kernel_rfl) (fun _ _ _ h => h) (Or.inl ⟨by rfl, ?_⟩) (by assumption) ?_
                          rotate_left
                          · (intro w hSw; (try dsimp only at hSw); (try go_simp); (try with_reducible rfl))
                          (try simp only [Act.put, List.getElem_toArray, List.getElem_cons_succ, List.getElem_cons_zero, List.setIfInBounds_toArray, List.set_cons_zero, List.set_cons_succ])
                          refine wpAnyH_take (i := 23) (oi := _) (v := ?_) rfl (by kernel_rfl) (by kernel_rfl) (by kernel_rfl) (fun _ _ _ h => h) (Or.inl ⟨by rfl, ?_⟩) (by assumption) ?_
                          rotate_left
                          · (intro w hSw; (try dsimp only at hSw); (try go_simp); (try with_reducible rfl))
                          (try simp only [Act.put, List.getElem_toArray, List.getElem_cons_succ, List.getElem_cons_zero, List.setIfInBounds_toArray, List.set_cons_zero, List.set_cons_succ])
                          refine wpAnyH_take (i := 24) (oi := _) (v := ?_) rfl (by kernel_rfl) (by kernel_rfl) (by kernel_rfl) (fun _ _ _ h => h) (Or.inl ⟨by rfl, ?_⟩) (by assumption) ?_
                          rotate_left
                          · (intro w hSw; (try dsimp only at hSw); (try go_simp); (try with_reducible rfl))
                          (try simp only [Act.put, List.getElem_toArray, List.getElem_cons_succ, List.getElem_cons_zero, List.setIfInBounds_toArray, List.set_cons_zero, List.set_cons_succ])
                          refine wpAnyH_ready (rs := [25]) (by kernel_rfl) (by simp) ?_
                          refine AllReadyH.cons (o := _) rfl (fun K hK => ?_) ?_
                          · go_simp
                            refine (nat_Make (10) _ (by omega)).mono ?_; rintro e z11 ⟨v11, rfl, hv11, hy⟩; have hE := hE.trans hy; have hvv := hv11.val; obtain ⟨nz, az, qz, cz, rfl⟩ := hvv.form
                            refine hK.out _ _ ?_ (fun hHeld2 => ?_)
                            · (first | exact ⟨cell_ext hy hHeld.1, cell_ext hy hHeld.2.1, cell_ext hy hHeld.2.2.1, cell_ext hy hHeld.2.2.2.1, cell_ext hy hHeld.2.2.2.2.1, cell_ext hy hHeld.2.2.2.2.2.1, cell_ext hy hHeld.2.2.2.2.2.2.1, cell_ext hy hHeld.2.2.2.2.2.2.2.1, cell_ext hy hHeld.2.2.2.2.2.2.2.2.1, cell_ext hy hHeld.2.2.2.2.2.2.2.2.2.1, cell_ext hy hHeld.2.2.2.2.2.2.2.2.2.2.1, cell_ext hy hHeld.2.2.2.2.2.2.2.2.2.2.2⟩ | exact ⟨cq0, cq1, cr0, cr1, cu0, cu1, cv0, cv1, cx0, cx1, cn0, cn1⟩ | exact hHeld | exact ⟨cell_ext (Ext.alloc _ _) hHeld.1, cell_ext (Ext.alloc _ _) hHeld.2.1, cell_ext (Ext.alloc _ _) hHeld.2.2.1, cell_ext (Ext.alloc _ _) hHeld.2.2.2.1, cell_ext (Ext.alloc _ _) hHeld.2.2.2.2.1, cell_ext (Ext.alloc _ _) hHeld.2.2.2.2.2.1, cell_ext (Ext.alloc _ _) hHeld.2.2.2.2.2.2.1, cell_ext (Ext.alloc _ _) hHeld.2.2.2.2.2.2.2.1, cell_ext (Ext.alloc _ _) hHeld.2.2.2.2.2.2.2.2.1, cell_ext (Ext.alloc _ _) hHeld.2.2.2.2.2.2.2.2.2.1, cell_ext (Ext.alloc _ _) hHeld.2.2.2.2.2.2.2.2.2.2.1, cell_ext (Ext.alloc _ _) hHeld.2.2.2.2.2.2.2.2.2.2.2⟩)
                            clear hK K hHeld
                            have hHeld := hHeld2
                            clear hHeld2
                            (try simp only [Act.put, List.getElem_toArray, List.getElem_cons_succ, List.getElem_cons_zero, List.setIfInBounds_toArray, List.set_cons_zero, List.set_cons_succ])
                            refine wpAnyH_ready (rs := [26]) (by kernel_rfl) (by simp) ?_
                            refine AllReadyH.cons (o := _) rfl (fun K hK => ?_) ?_
                            · go_simp
                              refine (sameT (BigV.ext Vn.out hE) hvv rfl).mono ?_; rintro e z12 ⟨rfl, hy⟩; have hE := hE.trans hy; clear hvv
                              refine hK.out _ _ ?_ (fun hHeld2 => ?_)
                              · (first | exact ⟨cell_ext hy hHeld.1, cell_ext hy hHeld.2.1, cell_ext hy hHeld.2.2.1, cell_ext hy hHeld.2.2.2.1, cell_ext hy hHeld.2.2.2.2.1, cell_ext hy hHeld.2.2.2.2.2.1, cell_ext hy hHeld.2.2.2.2.2.2.1, cell_ext hy hHeld.2.2.2.2.2.2.2.1, cell_ext hy hHeld.2.2.2.2.2.2.2.2.1, cell_ext hy hHeld.2.2.2.2.2.2.2.2.2.1, cell_ext hy hHeld.2.2.2.2.2.2.2.2.2.2.1, cell_ext hy hHeld.2.2.2.2.2.2.2.2.2.2.2⟩ | exact ⟨cq0, cq1, cr0, cr1, cu0, cu1, cv0, cv1, cx0, cx1, cn0, cn1⟩ | exact hHeld | exact ⟨cell_ext (Ext.alloc _ _) hHeld.1, cell_ext (Ext.alloc _ _) hHeld.2.1, cell_ext (Ext.alloc _ _) hHeld.2.2.1, cell_ext (Ext.alloc _ _) hHeld.2.2.2.1, cell_ext (Ext.alloc _ _) hHeld.2.2.2.2.1, cell_ext (Ext.alloc _ _) hHeld.2.2.2.2.2.1, cell_ext (Ext.alloc _ _) hHeld.2.2.2.2.2.2.1, cell_ext (Ext.alloc _ _) hHeld.2.2.2.2.2.2.2.1, cell_ext (Ext.alloc _ _) hHeld.2.2.2.2.2.2.2.2.1, cell_ext (Ext.alloc _ _) hHeld.2.2.2.2.2.2.2.2.2.1, cell_ext (Ext.alloc _ _) hHeld.2.2.2.2.2.2.2.2.2.2.1, cell_ext (Ext.alloc _ _) hHeld.2.2.2.2.2.2.2.2.2.2.2⟩)
                              clear hK K hHeld
                              have hHeld := hHeld2
                              clear hHeld2
                              (try simp only [Act.put, List.getElem_toArray, List.getElem_cons_succ, List.getElem_cons_zero, List.setIfInBounds_toArray, List.set_cons_zero, List.set_cons_succ])
                              refine wpAnyH_take (i := 27) (oi := _) (v := ?_) rfl (by kernel_rfl) (by kernel_rfl) (by kernel_rfl) (fun _ _ _ h => h) (Or.inl ⟨by rfl, ?_⟩) (by assumption) ?_
                              rotate_left
                              · (intro w hSw; (try dsimp only at hSw); (try go_simp); (try with_reducible rfl))
                              (try simp only [Act.put, List.getElem_toArray, List.getElem_cons_succ, List.getElem_cons_zero, List.setIfInBounds_toArray, List.set_cons_zero, List.set_cons_succ])
                              refine wpAnyH_take (i := 28) (oi := _) (v := ?_) rfl (by kernel_rfl) (by kernel_rfl) (by kernel_rfl) (fun _ _ _ h => h) (Or.inl ⟨by rfl, ?_⟩) (by assumption) ?_
                              rotate_left
                              · (intro w hSw; (try dsimp only at hSw); (try go_simp); (try with_reducible rfl))
                              (try simp only [Act.put, List.getElem_toArray, List.getElem_cons_succ, List.getElem_cons_zero, List.setIfInBounds_toArray, List.set_cons_zero, List.set_cons_succ])
                              refine wpAnyH_ready (rs := [29]) (by kernel_rfl) (by simp) ?_
                              refine AllReadyH.cons (o := _) rfl (fun K hK => ?_) ?_
                              · go_simp
                                refine hK.out _ _ ?_ (fun hHeld2 => ?_)
                                · (first | exact ⟨cell_ext hy hHeld.1, cell_ext hy hHeld.2.1, cell_ext hy hHeld.2.2.1, cell_ext hy hHeld.2.2.2.1, cell_ext hy hHeld.2.2.2.2.1, cell_ext hy hHeld.2.2.2.2.2.1, cell_ext hy hHeld.2.2.2.2.2.2.1, cell_ext hy hHeld.2.2.2.2.2.2.2.1, cell_ext hy hHeld.2.2.2.2.2.2.2.2.1, cell_ext hy hHeld.2.2.2.2.2.2.2.2.2.1, cell_ext hy hHeld.2.2.2.2.2.2.2.2.2.2.1, cell_ext hy hHeld.2.2.2.2.2.2.2.2.2.2.2⟩ | exact ⟨cq0, cq1, cr0, cr1, cu0, cu1, cv0, cv1, cx0, cx1, cn0, cn1⟩ | exact hHeld | exact ⟨cell_ext (Ext.alloc _ _) hHeld.1, cell_ext (Ext.alloc _ _) hHeld.2.1, cell_ext (Ext.alloc _ _) hHeld.2.2.1, cell_ext (Ext.alloc _ _) hHeld.2.2.2.1, cell_ext (Ext.alloc _ _) hHeld.2.2.2.2.1, cell_ext (Ext.alloc _ _) hHeld.2.2.2.2.2.1, cell_ext (Ext.alloc _ _) hHeld.2.2.2.2.2.2.1, cell_ext (Ext.alloc _ _) hHeld.2.2.2.2.2.2.2.1, cell_ext (Ext.alloc _ _) hHeld.2.2.2.2.2.2.2.2.1, cell_ext (Ext.alloc _ _) hHeld.2.2.2.2.2.2.2.2.2.1, cell_ext (Ext.alloc _ _) hHeld.2.2.2.2.2.2.2.2.2.2.1, cell_ext (Ext.alloc _ _) hHeld.2.2.2.2.2.2.2.2.2.2.2⟩)
                                clear hK K hHeld
                                have hHeld := hHeld2
                                clear hHeld2
                                (try simp only [Act.put, List.getElem_toArray, List.getElem_cons_succ, List.getElem_cons_zero, List.setIfInBounds_toArray, List.set_cons_zero, List.set_cons_succ])
                                refine wpAnyH_take (i := 30) (oi := _) (v := ?_) rfl (by kernel_rfl) (by kernel_rfl) (by kernel_rfl) (fun _ _ _ h => h) (Or.inl ⟨by rfl, ?_⟩) (by assumption) ?_
                                rotate_left
                                · (intro w hSw; (try dsimp only at hSw); (try go_simp); (try with_reducible rfl))
                                (try simp only [Act.put, List.getElem_toArray, List.getElem_cons_succ, List.getElem_cons_zero, List.setIfInBounds_toArray, List.set_cons_zero, List.set_cons_succ])
                                refine wpAnyH_ready (rs := [31]) (by kernel_rfl) (by simp) ?_
                                refine AllReadyH.cons (o := _) rfl (fun K hK => ?_) ?_
                                · go_simp
                                  refine (sanK1 _ _ (IB.ints (g := z12.heap.size) (L := [5, 0]) (Blk.new0 z12 #[.int .i64 5, .int .i64 0] 3) (by decide) (by simp))).mono ?_; rintro e z13 ⟨rfl, hy⟩; have hE := (hE.alloc' _).trans hy
                                  refine hK.out _ _ ?_ (fun hHeld2 => ?_)
                                  · (first | exact ⟨cell_ext hy hHeld.1, cell_ext hy hHeld.2.1, cell_ext hy hHeld.2.2.1, cell_ext hy hHeld.2.2.2.1, cell_ext hy hHeld.2.2.2.2.1, cell_ext hy hHeld.2.2.2.2.2.1, cell_ext hy hHeld.2.2.2.2.2.2.1, cell_ext hy hHeld.2.2.2.2.2.2.2.1, cell_ext hy hHeld.2.2.2.2.2.2.2.2.1, cell_ext hy hHeld.2.2.2.2.2.2.2.2.2.1, cell_ext hy hHeld.2.2.2.2.2.2.2.2.2.2.1, cell_ext hy hHeld.2.2.2.2.2.2.2.2.2.2.2⟩ | exact ⟨cq0, cq1, cr0, cr1, cu0, cu1, cv0, cv1, cx0, cx1, cn0, cn1⟩ | exact hHeld | exact ⟨cell_ext (Ext.alloc _ _) hHeld.1, cell_ext (Ext.alloc _ _) hHeld.2.1, cell_ext (Ext.alloc _ _) hHeld.2.2.1, cell_ext (Ext.alloc _ _) hHeld.2.2.2.1, cell_ext (Ext.alloc _ _) hHeld.2.2.2.2.1, cell_ext (Ext.alloc _ _) hHeld.2.2.2.2.2.1, cell_ext (Ext.alloc _ _) hHeld.2.2.2.2.2.2.1, cell_ext (Ext.alloc _ _) hHeld.2.2.2.2.2.2.2.1, cell_ext (Ext.alloc _ _) hHeld.2.2.2.2.2.2.2.2.1, cell_ext (Ext.alloc _ _) hHeld.2.2.2.2.2.2.2.2.2.1, cell_ext (Ext.alloc _ _) hHeld.2.2.2.2.2.2.2.2.2.2.1, cell_ext (Ext.alloc _ _) hHeld.2.2.2.2.2.2.2.2.2.2.2⟩)
                                  clear hK K hHeld
                                  have hHeld := hHeld2
                                  clear hHeld2
                                  (try simp only [Act.put, List.getElem_toArray, List.getElem_cons_succ, List.getElem_cons_zero, List.setIfInBounds_toArray, List.set_cons_zero, List.set_cons_succ])
                                  refine wpAnyH_take (i := 32) (oi := _) (v := ?_) rfl (by kernel_rfl) (by kernel_rfl) (by kernel_rfl) (fun _ _ _ h => h) (Or.inl ⟨by rfl, ?_⟩) (by assumption) ?_
                                  rotate_left
                                  · (intro w hSw; (try dsimp only at hSw); (try go_simp); (try with_reducible rfl))
                                  (try simp only [Act.put, List.getElem_toArray, List.getElem_cons_succ, List.getElem_cons_zero, List.setIfInBounds_toArray, List.set_cons_zero, List.set_cons_succ])
                                  refine wpAnyH_take (i := 33) (oi := _) (v := ?_) rfl (by kernel_rfl) (by kernel_rfl) (by kernel_rfl) (fun _ _ _ h => h) (Or.inl ⟨by rfl, ?_⟩) (by assumption) ?_
                                  rotate_left
                                  · (intro w hSw; (try dsimp only at hSw); (try go_simp); (try with_reducible rfl))
                                  (try simp only [Act.put, List.getElem_toArray, List.getElem_cons_succ, List.getElem_cons_zero, List.setIfInBounds_toArray, List.set_cons_zero, List.set_cons_succ])
                                  refine wpAnyH_take (i := 34) (oi := _) (v := ?_) rfl (by kernel_rfl) (by kernel_rfl) (by kernel_rfl) (fun _ _ _ h => h) (Or.inl ⟨by rfl, ?_⟩) (by assumption) ?_
                                  rotate_left
                                  · (intro w hSw; (try dsimp only at hSw); (try go_simp); (try with_reducible rfl))
                                  (try simp only [Act.put, List.getElem_toArray, List.getElem_cons_succ, List.getElem_cons_zero, List.setIfInBounds_toArray, List.set_cons_zero, List.set_cons_succ])
                                  refine wpAnyH_take (i := 35) (oi := _) (v := ?_) rfl (by kernel_rfl) (by kernel_rfl) (by kernel_rfl) (fun _ _ _ h => h) (Or.inl ⟨by rfl, ?_⟩) (by assumption) ?_
                                  rotate_left
                                  · (intro w hSw; (try dsimp only at hSw); (try go_simp); (try with_reducible rfl))
                                  (try simp only [Act.put, List.getElem_toArray, List.getElem_cons_succ, List.getElem_cons_zero, List.setIfInBounds_toArray, List.set_cons_zero, List.set_cons_succ])
                                  refine wpAnyH_ready (rs := [36]) (by kernel_rfl) (by simp) ?_
                                  refine AllReadyH.cons (o := _) rfl (fun K hK => ?_) ?_
                                  · go_simp
                                    refine (sanK2 _).mono ?_; rintro e z14 ⟨rfl, hy⟩; have hE := hE.trans hy
                                    refine hK.out _ _ ?_ (fun hHeld2 => ?_)
                                    · (first | exact ⟨cell_ext hy hHeld.1, cell_ext hy hHeld.2.1, cell_ext hy hHeld.2.2.1, cell_ext hy hHeld.2.2.2.1, cell_ext hy hHeld.2.2.2.2.1, cell_ext hy hHeld.2.2.2.2.2.1, cell_ext hy hHeld.2.2.2.2.2.2.1, cell_ext hy hHeld.2.2.2.2.2.2.2.1, cell_ext hy hHeld.2.2.2.2.2.2.2.2.1, cell_ext hy hHeld.2.2.2.2.2.2.2.2.2.1, cell_ext hy hHeld.2.2.2.2.2.2.2.2.2.2.1, cell_ext hy hHeld.2.2.2.2.2.2.2.2.2.2.2⟩ | exact ⟨cq0, cq1, cr0, cr1, cu0, cu1, cv0, cv1, cx0, cx1, cn0, cn1⟩ | exact hHeld | exact ⟨cell_ext (Ext.alloc _ _) hHeld.1, cell_ext (Ext.alloc _ _) hHeld.2.1, cell_ext (Ext.alloc _ _) hHeld.2.2.1, cell_ext (Ext.alloc _ _) hHeld.2.2.2.1, cell_ext (Ext.alloc _ _) hHeld.2.2.2.2.1, cell_ext (Ext.alloc _ _) hHeld.2.2.2.2.2.1, cell_ext (Ext.alloc _ _) hHeld.2.2.2.2.2.2.1, cell_ext (Ext.alloc _ _) hHeld.2.2.2.2.2.2.2.1, cell_ext (Ext.alloc _ _) hHeld.2.2.2.2.2.2.2.2.1, cell_ext (Ext.alloc _ _) hHeld.2.2.2.2.2.2.2.2.2.1, cell_ext (Ext.alloc _ _) hHeld.2.2.2.2.2.2.2.2.2.2.1, cell_ext (Ext.alloc _ _) hHeld.2.2.2.2.2.2.2.2.2.2.2⟩)
                                    clear hK K hHeld
                                    have hHeld := hHeld2
                                    clear hHeld2
                                    (try simp only [Act.put, List.getElem_toArray, List.getElem_cons_succ, List.getElem_cons_zero, List.setIfInBounds_toArray, List.set_cons_zero, List.set_cons_succ])
                                    refine wpAnyH_take (i := 37) (oi := _) (v := ?_) rfl (by kernel_rfl) (by kernel_rfl) (by kernel_rfl) (fun _ _ _ h => h) (Or.inl ⟨by rfl, ?_⟩) (by assumption) ?_
                                    rotate_left
                                    · (intro w hSw; (try dsimp only at hSw); (try go_simp); (try with_reducible rfl))
                                    (try simp only [Act.put, List.getElem_toArray, List.getElem_cons_succ, List.getElem_cons_zero, List.setIfInBounds_toArray, List.set_cons_zero, List.set_cons_succ])
                                    refine wpAnyH_take (i := 38) (oi := _) (v := ?_) rfl (by kernel_rfl) (by kernel_rfl) (by kernel_rfl) (fun _ _ _ h => h) (Or.inl ⟨by rfl, ?_⟩) (by assumption) ?_
                                    rotate_left
                                    · (intro w hSw; (try dsimp only at hSw); (try go_simp); (try with_reducible rfl))
                                    (try simp only [Act.put, List.getElem_toArray, List.getElem_cons_succ, List.getElem_cons_zero, List.setIfInBounds_toArray, List.set_cons_zero, List.set_cons_succ])
                                    refine wpAnyH_take (i := 39) (oi := _) (v := ?_) rfl (by kernel_rfl) (by kernel_rfl) (by kernel_rfl) (fun _ _ _ h => h) (Or.inl ⟨by rfl, ?_⟩) (by assumption) ?_
                                    rotate_left
                                    · (intro w hSw; (try dsimp only at hSw); (try go_simp); (try with_reducible rfl))
                                    (try simp only [Act.put, List.getElem_toArray, List.getElem_cons_succ, List.getElem_cons_zero, List.setIfInBounds_toArray, List.set_cons_zero, List.set_cons_succ])
                                    refine wpAnyH_ready (rs := [40]) (by kernel_rfl) (by simp) ?_
                                    refine AllReadyH.cons (o := _) rfl (fun K hK => ?_) ?_
                                    · go_simp
                                      refine hK.out _ _ ?_ (fun hHeld2 => ?_)
                                      · (first | exact ⟨cell_ext hy hHeld.1, cell_ext hy hHeld.2.1, cell_ext hy hHeld.2.2.1, cell_ext hy hHeld.2.2.2.1, cell_ext hy hHeld.2.2.2.2.1, cell_ext hy hHeld.2.2.2.2.2.1, cell_ext hy hHeld.2.2.2.2.2.2.1, cell_ext hy hHeld.2.2.2.2.2.2.2.1, cell_ext hy hHeld.2.2.2.2.2.2.2.2.1, cell_ext hy hHeld.2.2.2.2.2.2.2.2.2.1, cell_ext hy hHeld.2.2.2.2.2.2.2.2.2.2.1, cell_ext hy hHeld.2.2.2.2.2.2.2.2.2.2.2⟩ | exact ⟨cq0, cq1, cr0, cr1, cu0, cu1, cv0, cv1, cx0, cx1, cn0, cn1⟩ | exact hHeld | exact ⟨cell_ext (Ext.alloc _ _) hHeld.1, cell_ext (Ext.alloc _ _) hHeld.2.1, cell_ext (Ext.alloc _ _) hHeld.2.2.1, cell_ext (Ext.alloc _ _) hHeld.2.2.2.1, cell_ext (Ext.alloc _ _) hHeld.2.2.2.2.1, cell_ext (Ext.alloc _ _) hHeld.2.2.2.2.2.1, cell_ext (Ext.alloc _ _) hHeld.2.2.2.2.2.2.1, cell_ext (Ext.alloc _ _) hHeld.2.2.2.2.2.2.2.1, cell_ext (Ext.alloc _ _) hHeld.2.2.2.2.2.2.2.2.1, cell_ext (Ext.alloc _ _) hHeld.2.2.2.2.2.2.2.2.2.1, cell_ext (Ext.alloc _ _) hHeld.2.2.2.2.2.2.2.2.2.2.1, cell_ext (Ext.alloc _ _) hHeld.2.2.2.2.2.2.2.2.2.2.2⟩)
                                      clear hK K hHeld
                                      have hHeld := hHeld2
                                      clear hHeld2
                                      (try simp only [Act.put, List.getElem_toArray, List.getElem_cons_succ, List.getElem_cons_zero, List.setIfInBounds_toArray, List.set_cons_zero, List.set_cons_succ])
                                      refine wpAnyH_take (i := 41) (oi := _) (v := ?_) rfl (by kernel_rfl) (by kernel_rfl) (by kernel_rfl) (fun _ _ _ h => h) (Or.inl ⟨by rfl, ?_⟩) (by assumption) ?_
                                      rotate_left
                                      · (intro w hSw; (try dsimp only at hSw); (try go_simp); (try with_reducible rfl))
                                      (try simp only [Act.put, List.getElem_toArray, List.getElem_cons_succ, List.getElem_cons_zero, List.setIfInBounds_toArray, List.set_cons_zero, List.set_cons_succ])
                                      refine wpAnyH_ready (rs := [42]) (by kernel_rfl) (by simp) ?_
                                      refine AllReadyH.cons (o := _) rfl (fun K hK => ?_) ?_
                                      · go_simp
                                        refine (sanK3 _ _ (IB.ints (g := z14.heap.size) (L := [1073741824]) (Blk.new0 z14 #[.int .i64 1073741824] 3) (by decide) (by simp))).mono ?_; rintro e z15 ⟨rfl, hy⟩; have hE := (hE.alloc' _).trans hy
                                        refine hK.out _ _ ?_ (fun hHeld2 => ?_)
                                        · (first | exact ⟨cell_ext hy hHeld.1, cell_ext hy hHeld.2.1, cell_ext hy hHeld.2.2.1, cell_ext hy hHeld.2.2.2.1, cell_ext hy hHeld.2.2.2.2.1, cell_ext hy hHeld.2.2.2.2.2.1, cell_ext hy hHeld.2.2.2.2.2.2.1, cell_ext hy hHeld.2.2.2.2.2.2.2.1, cell_ext hy hHeld.2.2.2.2.2.2.2.2.1, cell_ext hy hHeld.2.2.2.2.2.2.2.2.2.1, cell_ext hy hHeld.2.2.2.2.2.2.2.2.2.2.1, cell_ext hy hHeld.2.2.2.2.2.2.2.2.2.2.2⟩ | exact ⟨cq0, cq1, cr0, cr1, cu0, cu1, cv0, cv1, cx0, cx1, cn0, cn1⟩ | exact hHeld | exact ⟨cell_ext (Ext.alloc _ _) hHeld.1, cell_ext (Ext.alloc _ _) hHeld.2.1, cell_ext (Ext.alloc _ _) hHeld.2.2.1, cell_ext (Ext.alloc _ _) hHeld.2.2.2.1, cell_ext (Ext.alloc _ _) hHeld.2.2.2.2.1, cell_ext (Ext.alloc _ _) hHeld.2.2.2.2.2.1, cell_ext (Ext.alloc _ _) hHeld.2.2.2.2.2.2.1, cell_ext (Ext.alloc _ _) hHeld.2.2.2.2.2.2.2.1, cell_ext (Ext.alloc _ _) hHeld.2.2.2.2.2.2.2.2.1, cell_ext (Ext.alloc _ _) hHeld.2.2.2.2.2.2.2.2.2.1, cell_ext (Ext.alloc _ _) hHeld.2.2.2.2.2.2.2.2.2.2.1, cell_ext (Ext.alloc _ _) hHeld.2.2.2.2.2.2.2.2.2.2.2⟩)
                                        clear hK K hHeld
                                        have hHeld := hHeld2
                                        clear hHeld2
                                        (try simp only [Act.put, List.getElem_toArray, List.getElem_cons_succ, List.getElem_cons_zero, List.setIfInBounds_toArray, List.set_cons_zero, List.set_cons_succ])
                                        refine wpAnyH_take (i := 43) (oi := _) (v := ?_) rfl (by kernel_rfl) (by kernel_rfl) (by kernel_rfl) (fun _ _ _ h => h) (Or.inl ⟨by rfl, ?_⟩) (by assumption) ?_
                                        rotate_left
                                        · (intro w hSw; (try dsimp only at hSw); (try go_simp); (try with_reducible rfl))
                                        (try simp only [Act.put, List.getElem_toArray, List.getElem_cons_succ, List.getElem_cons_zero, List.setIfInBounds_toArray, List.set_cons_zero, List.set_cons_succ])
                                        refine wpAnyH_take (i := 44) (oi := _) (v := ?_) rfl (by kernel_rfl) (by kernel_rfl) (by kernel_rfl) (fun _ _ _ h => h) (Or.inl ⟨by rfl, ?_⟩) (by assumption) ?_
                                        rotate_left
                                        · (intro w hSw; (try dsimp only at hSw); (try go_simp); (try with_reducible rfl))
                                        (try simp only [Act.put, List.getElem_toArray, List.getElem_cons_succ, List.getElem_cons_zero, List.setIfInBounds_toArray, List.set_cons_zero, List.set_cons_succ])
                                        refine wpAnyH_take (i := 45) (oi := _) (v := ?_) rfl (by kernel_rfl) (by kernel_rfl) (by kernel_rfl) (fun _ _ _ h => h) (Or.inl ⟨by rfl, ?_⟩) (by assumption) ?_
                                        rotate_left
                                        · (intro w hSw; (try dsimp only at hSw); (try go_simp); (try with_reducible rfl))
                                        (try simp only [Act.put, List.getElem_toArray, List.getElem_cons_succ, List.getElem_cons_zero, List.setIfInBounds_toArray, List.set_cons_zero, List.set_cons_succ])
                                        refine wpAnyH_take (i := 46) (oi := _) (v := ?_) rfl (by kernel_rfl) (by kernel_rfl) (by kernel_rfl) (fun _ _ _ h => h) (Or.inl ⟨by rfl, ?_⟩) (by assumption) ?_
                                        rotate_left
                                        · (intro w hSw; (try dsimp only at hSw); (try go_simp); (try with_reducible rfl))
                                        (try simp only [Act.put, List.getElem_toArray, List.getElem_cons_succ, List.getElem_cons_zero, List.setIfInBounds_toArray, List.set_cons_zero, List.set_cons_succ])
                                        refine wpAnyH_ready (rs := [47]) (by kernel_rfl) (by simp) ?_
                                        refine AllReadyH.cons (o := _) rfl (fun K hK => ?_) ?_
                                        · go_simp
                                          refine (sanK4 _).mono ?_; rintro e z16 ⟨rfl, hy⟩; have hE := hE.trans hy
                                          refine hK.out _ _ ?_ (fun hHeld2 => ?_)
                                          · (first | exact ⟨cell_ext hy hHeld.1, cell_ext hy hHeld.2.1, cell_ext hy hHeld.2.2.1, cell_ext hy hHeld.2.2.2.1, cell_ext hy hHeld.2.2.2.2.1, cell_ext hy hHeld.2.2.2.2.2.1, cell_ext hy hHeld.2.2.2.2.2.2.1, cell_ext hy hHeld.2.2.2.2.2.2.2.1, cell_ext hy hHeld.2.2.2.2.2.2.2.2.1, cell_ext hy hHeld.2.2.2.2.2.2.2.2.2.1, cell_ext hy hHeld.2.2.2.2.2.2.2.2.2.2.1, cell_ext hy hHeld.2.2.2.2.2.2.2.2.2.2.2⟩ | exact ⟨cq0, cq1, cr0, cr1, cu0, cu1, cv0, cv1, cx0, cx1, cn0, cn1⟩ | exact hHeld | exact ⟨cell_ext (Ext.alloc _ _) hHeld.1, cell_ext (Ext.alloc _ _) hHeld.2.1, cell_ext (Ext.alloc _ _) hHeld.2.2.1, cell_ext (Ext.alloc _ _) hHeld.2.2.2.1, cell_ext (Ext.alloc _ _) hHeld.2.2.2.2.1, cell_ext (Ext.alloc _ _) hHeld.2.2.2.2.2.1, cell_ext (Ext.alloc _ _) hHeld.2.2.2.2.2.2.1, cell_ext (Ext.alloc _ _) hHeld.2.2.2.2.2.2.2.1, cell_ext (Ext.alloc _ _) hHeld.2.2.2.2.2.2.2.2.1, cell_ext (Ext.alloc _ _) hHeld.2.2.2.2.2.2.2.2.2.1, cell_ext (Ext.alloc _ _) hHeld.2.2.2.2.2.2.2.2.2.2.1, cell_ext (Ext.alloc _ _) hHeld.2.2.2.2.2.2.2.2.2.2.2⟩)
                                          clear hK K hHeld
                                          have hHeld := hHeld2
                                          clear hHeld2
                                          (try simp only [Act.put, List.getElem_toArray, List.getElem_cons_succ, List.getElem_cons_zero, List.setIfInBounds_toArray, List.set_cons_zero, List.set_cons_succ])
                                          refine wpAnyH_take (i := 48) (oi := _) (v := ?_) rfl (by kernel_rfl) (by kernel_rfl) (by kernel_rfl) (fun _ _ _ h => h) (Or.inl ⟨by rfl, ?_⟩) (by assumption) ?_
                                          rotate_left
                                          · (intro w hSw; (try dsimp only at hSw); (try go_simp); (try with_reducible rfl))
                                          (try simp only [Act.put, List.getElem_toArray, List.getElem_cons_succ, List.getElem_cons_zero, List.setIfInBounds_toArray, List.set_cons_zero, List.set_cons_succ])
                                          refine wpAnyH_take (i := 49) (oi := _) (v := ?_) rfl (by kernel_rfl) (by kernel_rfl) (by kernel_rfl) (fun _ _ _ h => h) (Or.inl ⟨by rfl, ?_⟩) (by assumption) ?_
                                          rotate_left
                                          · (intro w hSw; (try dsimp only at hSw); (try go_simp); (try with_reducible rfl))
                                          (try simp only [Act.put, List.getElem_toArray, List.getElem_cons_succ, List.getElem_cons_zero, List.setIfInBounds_toArray, List.set_cons_zero, List.set_cons_succ])
                                          refine wpAnyH_take (i := 50) (oi := _) (v := ?_) rfl (by kernel_rfl) (by kernel_rfl) (by kernel_rfl) (fun _ _ _ h => h) (Or.inl ⟨by rfl, ?_⟩) (by assumption) ?_
                                          rotate_left
                                          · (intro w hSw; (try dsimp only at hSw); (try go_simp); (try with_reducible rfl))
                                          (try simp only [Act.put, List.getElem_toArray, List.getElem_cons_succ, List.getElem_cons_zero, List.setIfInBounds_toArray, List.set_cons_zero, List.set_cons_succ])
                                          refine wpAnyH_done (by kernel_rfl) ?_ _
                                          (go_wp2_with fail; go_ret; exact ⟨rfl, hx.trans hE⟩)
                                        exact AllReadyH.nil
                                      exact AllReadyH.nil
                                    exact AllReadyH.nil
                                  exact AllReadyH.nil
                                exact AllReadyH.nil
                              exact AllReadyH.nil
                            exact AllReadyH.nil
                          exact AllReadyH.nil
                        exact AllReadyH.nil
                      exact AllReadyH.nil
                    exact AllReadyH.nil
                  exact AllReadyH.nil
                exact AllReadyH.nil
              exact AllReadyH.nil
            exact AllReadyH.nil
          exact AllReadyH.nil
        exact AllReadyH.nil
      exact AllReadyH.nil
end Go.Proofs.YtpaaanbcadlhiaaDoor
