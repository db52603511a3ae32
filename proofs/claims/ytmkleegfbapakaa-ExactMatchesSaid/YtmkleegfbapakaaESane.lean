import Derived.Test.YtmkleegfbapakaaESane0
import Derived.OwnWalk
import Derived.Deep.Cut
import Derived.Deep.RegionHeld3
import Derived.BigFrame
import Derived.Outline
import Derived.Deep.DeepCutAuto
namespace Go.Proofs.Ytmkleegfbapakaa
open Go.RowKit Go BigFrame
set_option maxRecDepth 100000
set_option linter.unusedSimpArgs false

theorem mk1 (w : World) : Calls Try.prog 56 #[.int .i64 1] w (BigP 1 w) := nat_Make 1 w (by omega)
theorem mk2 (w : World) : Calls Try.prog 56 #[.int .i64 2] w (BigP 2 w) := nat_Make 2 w (by omega)
theorem sameT {x y : Value} {z z2 : Int} {w : World} (h : BigV w x z) (h2 : BigV w y z2) (e : z = z2) : Calls Try.prog 30 #[x, y] w fun e w' => e = .returned (.bool true) ∧ Ext w w' := by
  have := ref_Same_val h h2
  rwa [decide_eq_true e] at this

set_option maxHeartbeats 8000000 in
theorem law41Sane (w : World) : Calls Try.prog 26 #[] w fun e w' => e = .returned (.bool true) ∧ Ext w w' := by
  obtain ⟨i0, hi0, hz0, hz1, hz2⟩ := info_parts infoInt
  have hx := Ext.refl w
  go_enter Try.func26, Try.ntmps26
  go_upto_region 1 with fail
  have i1 : Ints (w.alloc (.cells #[.int .i64 1, .int .i64 1, .int .i64 5] 3)) (some ⟨w.heap.size, 0, none⟩) 3 [1, 1, 5] := (Blk.new0 w #[.int .i64 1, .int .i64 1, .int .i64 5] 3).ints1 (l := [1, 1, 5]) (by simp) (by decide)
  have hl : Ext w (w.alloc (.cells #[.int .i64 1, .int .i64 1, .int .i64 5] 3)) := (by repeat (first | with_reducible exact Ext.refl _ | with_reducible assumption | with_reducible refine Ext.drewN ?_ _ | with_reducible refine Ext.drew ?_ | with_reducible refine Ext.alloc' ?_ _ | with_reducible refine Ext.set ?_ (by dsimp only; omega) _))
  have hx := hx.trans hl
  go_wp2_with fail
  with_reducible refine (s41a _ 3 _ i1).mono ?_
  rintro e x1 ⟨v, rfl, ⟨na, aa, ca, La, rfl, hia, hba, _⟩, hy⟩
  clear hl
  have hx := hx.trans hy
  clear hy
  clear i1
  obtain ⟨qa, hqa⟩ : ∃ q, La.length = q := ⟨_, rfl⟩
  rw [hqa]
  have Qa := Lib.hid hqa
  clear hqa
  go_upto_region 2 with fail
  have hl := Ext.alloc x1 (.cells #[.bool na, .slice aa qa ca] 42)
  have hx := hx.trans hl
  have Ka := Lib.hid (Blk.new0 x1 #[.bool na, .slice aa qa ca] 42)
  have Ia := Lib.hid (hia.ext hl)
  have Ba := Lib.hid hba
  clear hia hba hl
  generalize x1.alloc (.cells #[.bool na, .slice aa qa ca] 42) = x2 at *
  generalize x1.heap.size = pa at *
  go_wp2_with fail
  with_reducible refine (s41b _).mono ?_
  rintro e x3 ⟨v, rfl, ⟨nb, ab, cb, Lb, rfl, hib, hbb, _⟩, hy⟩
  skip
  have hx := hx.trans hy
  have Ka := Lib.hid (Ka.out.ext hy)
  have Ia := Lib.hid (Ia.out.ext hy)
  clear hy
  obtain ⟨qb, hqb⟩ : ∃ q, Lb.length = q := ⟨_, rfl⟩
  rw [hqb]
  have Qb := Lib.hid hqb
  clear hqb
  go_upto_region 3 with fail
  have hl := Ext.alloc x3 (.cells #[.bool nb, .slice ab qb cb] 42)
  have hx := hx.trans hl
  have Ka := Lib.hid (Ka.out.ext hl)
  have Ia := Lib.hid (Ia.out.ext hl)
  have Kb := Lib.hid (Blk.new0 x3 #[.bool nb, .slice ab qb cb] 42)
  have Ib := Lib.hid (hib.ext hl)
  have Bb := Lib.hid hbb
  clear hib hbb hl
  generalize x3.alloc (.cells #[.bool nb, .slice ab qb cb] 42) = x4 at *
  generalize x3.heap.size = pb at *
  go_wp2_with fail
  with_reducible refine (s41c _).mono ?_
  rintro e x5 ⟨v, rfl, ⟨nc, ac, cc, Lc, rfl, hic, hbc, _⟩, hy⟩
  skip
  have hx := hx.trans hy
  have Ka := Lib.hid (Ka.out.ext hy)
  have Ia := Lib.hid (Ia.out.ext hy)
  have Kb := Lib.hid (Kb.out.ext hy)
  have Ib := Lib.hid (Ib.out.ext hy)
  clear hy
  obtain ⟨qc, hqc⟩ : ∃ q, Lc.length = q := ⟨_, rfl⟩
  rw [hqc]
  have Qc := Lib.hid hqc
  clear hqc
  go_upto_region 4 with fail
  have hl := Ext.alloc x5 (.cells #[.bool nc, .slice ac qc cc] 42)
  have hx := hx.trans hl
  have Ka := Lib.hid (Ka.out.ext hl)
  have Ia := Lib.hid (Ia.out.ext hl)
  have Kb := Lib.hid (Kb.out.ext hl)
  have Ib := Lib.hid (Ib.out.ext hl)
  have Kc := Lib.hid (Blk.new0 x5 #[.bool nc, .slice ac qc cc] 42)
  have Ic := Lib.hid (hic.ext hl)
  have Bc := Lib.hid hbc
  clear hic hbc hl
  generalize x5.alloc (.cells #[.bool nc, .slice ac qc cc] 42) = x6 at *
  generalize x5.heap.size = pc at *
  have i1 : Ints (x6.alloc (.cells #[.int .i64 1] 3)) (some ⟨x6.heap.size, 0, none⟩) 1 [1] := (Blk.new0 x6 #[.int .i64 1] 3).ints1 (l := [1]) (by simp) (by decide)
  have hl : Ext x6 (x6.alloc (.cells #[.int .i64 1] 3)) := (by repeat (first | with_reducible exact Ext.refl _ | with_reducible assumption | with_reducible refine Ext.drewN ?_ _ | with_reducible refine Ext.drew ?_ | with_reducible refine Ext.alloc' ?_ _ | with_reducible refine Ext.set ?_ (by dsimp only; omega) _))
  have hx := hx.trans hl
  have Ka := Lib.hid (Ka.out.ext hl)
  have Ia := Lib.hid (Ia.out.ext hl)
  have Kb := Lib.hid (Kb.out.ext hl)
  have Ib := Lib.hid (Ib.out.ext hl)
  have Kc := Lib.hid (Kc.out.ext hl)
  have Ic := Lib.hid (Ic.out.ext hl)
  go_wp2_with fail
  with_reducible refine (s41d _ 1 _ i1).mono ?_
  rintro e x7 ⟨rfl, hy⟩
  have hx := hx.trans hy
  have Ka := Lib.hid (Ka.out.ext hy)
  have Ia := Lib.hid (Ia.out.ext hy)
  have Kb := Lib.hid (Kb.out.ext hy)
  have Ib := Lib.hid (Ib.out.ext hy)
  have Kc := Lib.hid (Kc.out.ext hy)
  have Ic := Lib.hid (Ic.out.ext hy)
  clear hy
  clear i1 hl
  go_upto_region 5 with fail
  have hl := Ext.alloc x7 (.cells #[.bool false, .slice none 0 0] 42)
  have hx := hx.trans hl
  have Ka := Lib.hid (Ka.out.ext hl)
  have Ia := Lib.hid (Ia.out.ext hl)
  have Kb := Lib.hid (Kb.out.ext hl)
  have Ib := Lib.hid (Ib.out.ext hl)
  have Kc := Lib.hid (Kc.out.ext hl)
  have Ic := Lib.hid (Ic.out.ext hl)
  clear hl
  generalize x7.alloc (.cells #[.bool false, .slice none 0 0] 42) = x8 at *
  go_wp2_with (at_make; refine wpList_make_full _ rfl _ _ 39 rfl x8.heap.size 3 i0 (.int .i64 0) 1 Try.underlying39 hi0 hz0 hz1 _ _ _ _ 65 rfl rfl rfl rfl (by rw [hz2]; omega) (by unfold maxLen; omega) (Nat.le_refl _) ?_; intro y1 hown hgrow)
  have hl : Ext x8 y1 := (Ext.refl _).grown hgrow
  have hx := hx.trans hl
  have Ka := Lib.hid (Ka.out.ext hl)
  have Ia := Lib.hid (Ia.out.ext hl)
  have Kb := Lib.hid (Kb.out.ext hl)
  have Ib := Lib.hid (Ib.out.ext hl)
  have Kc := Lib.hid (Kc.out.ext hl)
  have Ic := Lib.hid (Ic.out.ext hl)
  clear hl hown hgrow
  go_wp2_with fail
  with_reducible refine (s41e _ _ _).mono ?_
  rintro e x9 ⟨rfl, hy⟩
  have hx := hx.trans hy
  have Ka := Lib.hid (Ka.out.ext hy)
  have Ia := Lib.hid (Ia.out.ext hy)
  have Kb := Lib.hid (Kb.out.ext hy)
  have Ib := Lib.hid (Ib.out.ext hy)
  have Kc := Lib.hid (Kc.out.ext hy)
  have Ic := Lib.hid (Ic.out.ext hy)
  clear hy
  go_upto_region 6 with fail
  have hl := Ext.alloc x9 (.cells #[.bool false, .slice none 0 0] 42)
  have hx := hx.trans hl
  have Ka := Lib.hid (Ka.out.ext hl)
  have Ia := Lib.hid (Ia.out.ext hl)
  have Kb := Lib.hid (Kb.out.ext hl)
  have Ib := Lib.hid (Ib.out.ext hl)
  have Kc := Lib.hid (Kc.out.ext hl)
  have Ic := Lib.hid (Ic.out.ext hl)
  clear hl
  generalize x9.alloc (.cells #[.bool false, .slice none 0 0] 42) = x10 at *
  have i1 : Ints ((x10.alloc (.cells #[.int .i64 0, .int .i64 1, .int .i64 2] 3)).alloc (.cells #[.int .i64 0, .int .i64 1, .int .i64 2] 3)) (some ⟨x10.heap.size, 0, none⟩) 3 [0, 1, 2] := ((Blk.new0 x10 #[.int .i64 0, .int .i64 1, .int .i64 2] 3).alloc (.cells #[.int .i64 0, .int .i64 1, .int .i64 2] 3)).ints1 (l := [0, 1, 2]) (by simp) (by decide)
  have i2 : Ints ((x10.alloc (.cells #[.int .i64 0, .int .i64 1, .int .i64 2] 3)).alloc (.cells #[.int .i64 0, .int .i64 1, .int .i64 2] 3)) (some ⟨x10.heap.size + 1, 0, none⟩) 3 [0, 1, 2] := (Blk.new1 x10 (.cells #[.int .i64 0, .int .i64 1, .int .i64 2] 3) #[.int .i64 0, .int .i64 1, .int .i64 2] 3).ints1 (l := [0, 1, 2]) (by simp) (by decide)
  have hl : Ext x10 ((x10.alloc (.cells #[.int .i64 0, .int .i64 1, .int .i64 2] 3)).alloc (.cells #[.int .i64 0, .int .i64 1, .int .i64 2] 3)) := (by repeat (first | with_reducible exact Ext.refl _ | with_reducible assumption | with_reducible refine Ext.drewN ?_ _ | with_reducible refine Ext.drew ?_ | with_reducible refine Ext.alloc' ?_ _ | with_reducible refine Ext.set ?_ (by dsimp only; omega) _))
  have hx := hx.trans hl
  have Ka := Lib.hid (Ka.out.ext hl)
  have Ia := Lib.hid (Ia.out.ext hl)
  have Kb := Lib.hid (Kb.out.ext hl)
  have Ib := Lib.hid (Ib.out.ext hl)
  have Kc := Lib.hid (Kc.out.ext hl)
  have Ic := Lib.hid (Ic.out.ext hl)
  go_wp2_with fail
  with_reducible refine (s41f _ _ 3 3 _ i1 i2).mono ?_
  rintro e x11 ⟨rfl, hy⟩
  have hx := hx.trans hy
  have Ka := Lib.hid (Ka.out.ext hy)
  have Ia := Lib.hid (Ia.out.ext hy)
  have Kb := Lib.hid (Kb.out.ext hy)
  have Ib := Lib.hid (Ib.out.ext hy)
  have Kc := Lib.hid (Kc.out.ext hy)
  have Ic := Lib.hid (Ic.out.ext hy)
  clear hy hl i1 i2
  go_upto_region 7 with fail
  have i1 : Ints ((x11.alloc (.cells #[.int .i64 0, .int .i64 1, .int .i64 2] 3)).alloc (.cells #[.int .i64 0, .int .i64 1, .int .i64 2] 3)) (some ⟨x11.heap.size, 0, none⟩) 3 [0, 1, 2] := ((Blk.new0 x11 #[.int .i64 0, .int .i64 1, .int .i64 2] 3).alloc (.cells #[.int .i64 0, .int .i64 1, .int .i64 2] 3)).ints1 (l := [0, 1, 2]) (by simp) (by decide)
  have i2 : Ints ((x11.alloc (.cells #[.int .i64 0, .int .i64 1, .int .i64 2] 3)).alloc (.cells #[.int .i64 0, .int .i64 1, .int .i64 2] 3)) (some ⟨x11.heap.size + 1, 0, none⟩) 3 [0, 1, 2] := (Blk.new1 x11 (.cells #[.int .i64 0, .int .i64 1, .int .i64 2] 3) #[.int .i64 0, .int .i64 1, .int .i64 2] 3).ints1 (l := [0, 1, 2]) (by simp) (by decide)
  have hl : Ext x11 ((x11.alloc (.cells #[.int .i64 0, .int .i64 1, .int .i64 2] 3)).alloc (.cells #[.int .i64 0, .int .i64 1, .int .i64 2] 3)) := (by repeat (first | with_reducible exact Ext.refl _ | with_reducible assumption | with_reducible refine Ext.drewN ?_ _ | with_reducible refine Ext.drew ?_ | with_reducible refine Ext.alloc' ?_ _ | with_reducible refine Ext.set ?_ (by dsimp only; omega) _))
  have hx := hx.trans hl
  have Ka := Lib.hid (Ka.out.ext hl)
  have Ia := Lib.hid (Ia.out.ext hl)
  have Kb := Lib.hid (Kb.out.ext hl)
  have Ib := Lib.hid (Ib.out.ext hl)
  have Kc := Lib.hid (Kc.out.ext hl)
  have Ic := Lib.hid (Ic.out.ext hl)
  go_wp2_with fail
  with_reducible refine (s41g _ _ 3 3 _ i1 i2).mono ?_
  rintro e x12 ⟨rfl, hy⟩
  have hx := hx.trans hy
  have Ka := Lib.hid (Ka.out.ext hy)
  have Ia := Lib.hid (Ia.out.ext hy)
  have Kb := Lib.hid (Kb.out.ext hy)
  have Ib := Lib.hid (Ib.out.ext hy)
  have Kc := Lib.hid (Kc.out.ext hy)
  have Ic := Lib.hid (Ic.out.ext hy)
  clear hy hl i1 i2
  go_upto_region 8 with fail
  go_wp2_with fail
  with_reducible refine (s41h _).mono ?_
  rintro e x13 ⟨rfl, hy⟩
  have hx := hx.trans hy
  have Ka := Lib.hid (Ka.out.ext hy)
  have Ia := Lib.hid (Ia.out.ext hy)
  have Kb := Lib.hid (Kb.out.ext hy)
  have Ib := Lib.hid (Ib.out.ext hy)
  have Kc := Lib.hid (Kc.out.ext hy)
  have Ic := Lib.hid (Ic.out.ext hy)
  clear hy
  go_upto_region 9 with fail
  go_wp2_with fail
  with_reducible refine (s41i _).mono ?_
  rintro e x14 ⟨rfl, hy⟩
  have hx := hx.trans hy
  have Ka := Lib.hid (Ka.out.ext hy)
  have Ia := Lib.hid (Ia.out.ext hy)
  have Kb := Lib.hid (Kb.out.ext hy)
  have Ib := Lib.hid (Ib.out.ext hy)
  have Kc := Lib.hid (Kc.out.ext hy)
  have Ic := Lib.hid (Ic.out.ext hy)
  clear hy
  go_upto_region 10 with fail
  have i1 : Ints (x14.alloc (.cells #[.int .i64 1] 3)) (some ⟨x14.heap.size, 0, none⟩) 1 [1] := (Blk.new0 x14 #[.int .i64 1] 3).ints1 (l := [1]) (by simp) (by decide)
  have hl : Ext x14 (x14.alloc (.cells #[.int .i64 1] 3)) := (by repeat (first | with_reducible exact Ext.refl _ | with_reducible assumption | with_reducible refine Ext.drewN ?_ _ | with_reducible refine Ext.drew ?_ | with_reducible refine Ext.alloc' ?_ _ | with_reducible refine Ext.set ?_ (by dsimp only; omega) _))
  have hx := hx.trans hl
  have Ka := Lib.hid (Ka.out.ext hl)
  have Ia := Lib.hid (Ia.out.ext hl)
  have Kb := Lib.hid (Kb.out.ext hl)
  have Ib := Lib.hid (Ib.out.ext hl)
  have Kc := Lib.hid (Kc.out.ext hl)
  have Ic := Lib.hid (Ic.out.ext hl)
  clear i1
  go_wp2_with fail
  with_reducible refine (s41j _ 1 _).mono ?_
  rintro e x15 ⟨rfl, hy⟩
  have hx := hx.trans hy
  have Ka := Lib.hid (Ka.out.ext hy)
  have Ia := Lib.hid (Ia.out.ext hy)
  have Kb := Lib.hid (Kb.out.ext hy)
  have Ib := Lib.hid (Ib.out.ext hy)
  have Kc := Lib.hid (Kc.out.ext hy)
  have Ic := Lib.hid (Ic.out.ext hy)
  clear hy hl
  go_upto_region 11 with fail
  have hmk : ∀ w : World, (Instr.makeSlice 39 (.int .i64 9) (.int .i64 9)).run Try.prog w = .ok (.slice (some ⟨w.heap.size, 0, none⟩) 9 9) (w.alloc (.cells #[.int .i64 0, .int .i64 0, .int .i64 0, .int .i64 0, .int .i64 0, .int .i64 0, .int .i64 0, .int .i64 0, .int .i64 0] 3)) := fun _ => by kernel_rfl
  go_cut [21, 22] (fun s21 s22 wx => s21 = .int .i64 0 ∧ s22 = .int .i64 2 ∧ Ext x15 wx)
  case first =>
    go_region_with (go_at_call 34; refine (s41k _ _ _ _ _).mono ?_; rintro e w' ⟨rfl, hy⟩)
    all_goals (go_wp2_with fail; go_meet; exact ⟨rfl, rfl, Ext.trans (by repeat (first | with_reducible exact Ext.refl _ | with_reducible assumption | with_reducible refine Ext.drewN ?_ _ | with_reducible refine Ext.drew ?_ | with_reducible refine Ext.alloc' ?_ _ | with_reducible refine Ext.set ?_ (by dsimp only; omega) _)) hy⟩)
  case rest =>
  obtain ⟨rfl, rfl, hy⟩ := hcut
  have hx := hx.trans hy
  have Ka := Lib.hid (Ka.out.ext hy)
  have Ia := Lib.hid (Ia.out.ext hy)
  have Kb := Lib.hid (Kb.out.ext hy)
  have Ib := Lib.hid (Ib.out.ext hy)
  have Kc := Lib.hid (Kc.out.ext hy)
  have Ic := Lib.hid (Ic.out.ext hy)
  clear hy hmk
  go_upto_region 12 with fail
  have i1 : Ints ((wc.alloc (.cells #[.int .i64 2097152] 3)).alloc (.cells #[.int .i64 0] 3)) (some ⟨wc.heap.size, 0, none⟩) 1 [2097152] := ((Blk.new0 wc #[.int .i64 2097152] 3).alloc (.cells #[.int .i64 0] 3)).ints1 (l := [2097152]) (by simp) (by decide)
  have i2 : Ints ((wc.alloc (.cells #[.int .i64 2097152] 3)).alloc (.cells #[.int .i64 0] 3)) (some ⟨wc.heap.size + 1, 0, none⟩) 1 [0] := (Blk.new1 wc (.cells #[.int .i64 2097152] 3) #[.int .i64 0] 3).ints1 (l := [0]) (by simp) (by decide)
  have hl : Ext wc ((wc.alloc (.cells #[.int .i64 2097152] 3)).alloc (.cells #[.int .i64 0] 3)) := (by repeat (first | with_reducible exact Ext.refl _ | with_reducible assumption | with_reducible refine Ext.drewN ?_ _ | with_reducible refine Ext.drew ?_ | with_reducible refine Ext.alloc' ?_ _ | with_reducible refine Ext.set ?_ (by dsimp only; omega) _))
  have hx := hx.trans hl
  have Ka := Lib.hid (Ka.out.ext hl)
  have Ia := Lib.hid (Ia.out.ext hl)
  have Kb := Lib.hid (Kb.out.ext hl)
  have Ib := Lib.hid (Ib.out.ext hl)
  have Kc := Lib.hid (Kc.out.ext hl)
  have Ic := Lib.hid (Ic.out.ext hl)
  go_wp2_with fail
  with_reducible refine (s41l _ _ 1 1 _ i1 i2).mono ?_
  rintro e x16 ⟨rfl, hy⟩
  have hx := hx.trans hy
  have Ka := Lib.hid (Ka.out.ext hy)
  have Ia := Lib.hid (Ia.out.ext hy)
  have Kb := Lib.hid (Kb.out.ext hy)
  have Ib := Lib.hid (Ib.out.ext hy)
  have Kc := Lib.hid (Kc.out.ext hy)
  have Ic := Lib.hid (Ic.out.ext hy)
  clear hy hl i1 i2
  go_upto_region 15 with fail
  have Va : Hid (BigV x16 (.agg #[.bool na, .slice aa qa ca]) 2) := Lib.hid ⟨na, La, ⟨aa, ca, by rw [Qa.out], Ia.out⟩, Ba.out⟩
  have ca0 := Ka.out.cell (i := 0) (v := .bool na) rfl
  have ca1 := Ka.out.cell (i := 1) (v := .slice aa qa ca) rfl
  have Vb : Hid (BigV x16 (.agg #[.bool nb, .slice ab qb cb]) 1) := Lib.hid ⟨nb, Lb, ⟨ab, cb, by rw [Qb.out], Ib.out⟩, Bb.out⟩
  have cb0 := Kb.out.cell (i := 0) (v := .bool nb) rfl
  have cb1 := Kb.out.cell (i := 1) (v := .slice ab qb cb) rfl
  have Vc : Hid (BigV x16 (.agg #[.bool nc, .slice ac qc cc]) 0) := Lib.hid ⟨nc, Lc, ⟨ac, cc, by rw [Qc.out], Ic.out⟩, Bc.out⟩
  have cc0 := Kc.out.cell (i := 0) (v := .bool nc) rfl
  have cc1 := Kc.out.cell (i := 1) (v := .slice ac qc cc) rfl
  have hE : Ext x16 x16.drew := (Ext.refl _).drew
  refine wp_region_held_drew (S := (fun w' => w'.cell? ⟨pa, 0, none⟩ = some (.bool na) ∧ w'.cell? ⟨pa, 1, none⟩ = some (.slice aa qa ca) ∧ w'.cell? ⟨pb, 0, none⟩ = some (.bool nb) ∧ w'.cell? ⟨pb, 1, none⟩ = some (.slice ab qb cb) ∧ w'.cell? ⟨pc, 0, none⟩ = some (.bool nc) ∧ w'.cell? ⟨pc, 1, none⟩ = some (.slice ac qc cc))) (by kernel_rfl) ?_ (fun hHeld => ?_)
  · (first | exact ⟨cell_ext hy hHeld.1, cell_ext hy hHeld.2.1, cell_ext hy hHeld.2.2.1, cell_ext hy hHeld.2.2.2.1, cell_ext hy hHeld.2.2.2.2.1, cell_ext hy hHeld.2.2.2.2.2⟩ | exact ⟨ca0, ca1, cb0, cb1, cc0, cc1⟩ | exact hHeld)
  refine wpAnyH_take (i := 0) (oi := _) (v := ?_) rfl (by kernel_rfl) (by kernel_rfl) (by kernel_rfl) (fun _ _ _ h => h) (Or.inl ⟨by rfl, ?_⟩) (by assumption) ?_
  rotate_left
  · (intro w hSw; (try dsimp only at hSw); (try go_simp); (try with_reducible rfl))
  (try simp only [Act.put, List.getElem_toArray, List.getElem_cons_succ, List.getElem_cons_zero, List.setIfInBounds_toArray, List.set_cons_zero, List.set_cons_succ])
  refine wpAnyH_ready (rs := [1]) (by kernel_rfl) (by simp) ?_
  refine AllReadyH.cons (o := _) rfl (fun K hK => ?_) ?_
  · go_simp
    refine (mk2 _).mono ?_; rintro e z1 ⟨v1, rfl, hv1, hy⟩; have hE := hE.trans hy
    refine hK.out _ _ ?_ (fun hHeld2 => ?_)
    · (first | exact ⟨cell_ext hy hHeld.1, cell_ext hy hHeld.2.1, cell_ext hy hHeld.2.2.1, cell_ext hy hHeld.2.2.2.1, cell_ext hy hHeld.2.2.2.2.1, cell_ext hy hHeld.2.2.2.2.2⟩ | exact ⟨ca0, ca1, cb0, cb1, cc0, cc1⟩ | exact hHeld)
    clear hK K hHeld
    have hHeld := hHeld2
    clear hHeld2
    (try simp only [Act.put, List.getElem_toArray, List.getElem_cons_succ, List.getElem_cons_zero, List.setIfInBounds_toArray, List.set_cons_zero, List.set_cons_succ])
    refine wpAnyH_ready (rs := [2]) (by kernel_rfl) (by simp) ?_
    refine AllReadyH.cons (o := _) rfl (fun K hK => ?_) ?_
    · go_simp
      refine (sameT (BigV.ext Va.out hE) hv1.val rfl).mono ?_; rintro e z2 ⟨rfl, hy⟩; have hE := hE.trans hy
      refine hK.out _ _ ?_ (fun hHeld2 => ?_)
      · (first | exact ⟨cell_ext hy hHeld.1, cell_ext hy hHeld.2.1, cell_ext hy hHeld.2.2.1, cell_ext hy hHeld.2.2.2.1, cell_ext hy hHeld.2.2.2.2.1, cell_ext hy hHeld.2.2.2.2.2⟩ | exact ⟨ca0, ca1, cb0, cb1, cc0, cc1⟩ | exact hHeld)
      clear hK K hHeld
      have hHeld := hHeld2
      clear hHeld2
      (try simp only [Act.put, List.getElem_toArray, List.getElem_cons_succ, List.getElem_cons_zero, List.setIfInBounds_toArray, List.set_cons_zero, List.set_cons_succ])
      refine wpAnyH_take (i := 3) (oi := _) (v := ?_) rfl (by kernel_rfl) (by kernel_rfl) (by kernel_rfl) (fun _ _ _ h => h) (Or.inl ⟨by rfl, ?_⟩) (by assumption) ?_
      rotate_left
      · (intro w hSw; (try dsimp only at hSw); (try go_simp); (try with_reducible rfl))
      (try simp only [Act.put, List.getElem_toArray, List.getElem_cons_succ, List.getElem_cons_zero, List.setIfInBounds_toArray, List.set_cons_zero, List.set_cons_succ])
      refine wpAnyH_take (i := 4) (oi := _) (v := ?_) rfl (by kernel_rfl) (by kernel_rfl) (by kernel_rfl) (fun _ _ _ h => h) (Or.inl ⟨by rfl, ?_⟩) (by assumption) ?_
      rotate_left
      · (intro w hSw; (try dsimp only at hSw); (try go_simp); (try with_reducible rfl))
      (try simp only [Act.put, List.getElem_toArray, List.getElem_cons_succ, List.getElem_cons_zero, List.setIfInBounds_toArray, List.set_cons_zero, List.set_cons_succ])
      refine wpAnyH_ready (rs := [5]) (by kernel_rfl) (by simp) ?_
      refine AllReadyH.cons (o := _) rfl (fun K hK => ?_) ?_
      · go_simp
        refine (mk1 _).mono ?_; rintro e z3 ⟨v3, rfl, hv3, hy⟩; have hE := hE.trans hy
        refine hK.out _ _ ?_ (fun hHeld2 => ?_)
        · (first | exact ⟨cell_ext hy hHeld.1, cell_ext hy hHeld.2.1, cell_ext hy hHeld.2.2.1, cell_ext hy hHeld.2.2.2.1, cell_ext hy hHeld.2.2.2.2.1, cell_ext hy hHeld.2.2.2.2.2⟩ | exact ⟨ca0, ca1, cb0, cb1, cc0, cc1⟩ | exact hHeld)
        clear hK K hHeld
        have hHeld := hHeld2
        clear hHeld2
        (try simp only [Act.put, List.getElem_toArray, List.getElem_cons_succ, List.getElem_cons_zero, List.setIfInBounds_toArray, List.set_cons_zero, List.set_cons_succ])
        refine wpAnyH_ready (rs := [6]) (by kernel_rfl) (by simp) ?_
        refine AllReadyH.cons (o := _) rfl (fun K hK => ?_) ?_
        · go_simp
          refine (sameT (BigV.ext Vb.out hE) hv3.val rfl).mono ?_; rintro e z4 ⟨rfl, hy⟩; have hE := hE.trans hy
          refine hK.out _ _ ?_ (fun hHeld2 => ?_)
          · (first | exact ⟨cell_ext hy hHeld.1, cell_ext hy hHeld.2.1, cell_ext hy hHeld.2.2.1, cell_ext hy hHeld.2.2.2.1, cell_ext hy hHeld.2.2.2.2.1, cell_ext hy hHeld.2.2.2.2.2⟩ | exact ⟨ca0, ca1, cb0, cb1, cc0, cc1⟩ | exact hHeld)
          clear hK K hHeld
          have hHeld := hHeld2
          clear hHeld2
          (try simp only [Act.put, List.getElem_toArray, List.getElem_cons_succ, List.getElem_cons_zero, List.setIfInBounds_toArray, List.set_cons_zero, List.set_cons_succ])
          refine wpAnyH_take (i := 7) (oi := _) (v := ?_) rfl (by kernel_rfl) (by kernel_rfl) (by kernel_rfl) (fun _ _ _ h => h) (Or.inl ⟨by rfl, ?_⟩) (by assumption) ?_
          rotate_left
          · (intro w hSw; (try dsimp only at hSw); (try go_simp); (try with_reducible rfl))
          (try simp only [Act.put, List.getElem_toArray, List.getElem_cons_succ, List.getElem_cons_zero, List.setIfInBounds_toArray, List.set_cons_zero, List.set_cons_succ])
          refine wpAnyH_take (i := 8) (oi := _) (v := ?_) rfl (by kernel_rfl) (by kernel_rfl) (by kernel_rfl) (fun _ _ _ h => h) (Or.inl ⟨by rfl, ?_⟩) (by assumption) ?_
          rotate_left
          · (intro w hSw; (try dsimp only at hSw); (try go_simp); (try with_reducible rfl))
          (try simp only [Act.put, List.getElem_toArray, List.getElem_cons_succ, List.getElem_cons_zero, List.setIfInBounds_toArray, List.set_cons_zero, List.set_cons_succ])
          refine wpAnyH_take (i := 9) (oi := _) (v := ?_) rfl (by kernel_rfl) (by kernel_rfl) (by kernel_rfl) (fun _ _ _ h => h) (Or.inl ⟨by rfl, ?_⟩) (by assumption) ?_
          rotate_left
          · (intro w hSw; (try dsimp only at hSw); (try go_simp); (try with_reducible rfl))
          (try simp only [Act.put, List.getElem_toArray, List.getElem_cons_succ, List.getElem_cons_zero, List.setIfInBounds_toArray, List.set_cons_zero, List.set_cons_succ])
          refine wpAnyH_take (i := 10) (oi := _) (v := ?_) rfl (by kernel_rfl) (by kernel_rfl) (by kernel_rfl) (fun _ _ _ h => h) (Or.inl ⟨by rfl, ?_⟩) (by assumption) ?_
          rotate_left
          · (intro w hSw; (try dsimp only at hSw); (try go_simp); (try with_reducible rfl))
          (try simp only [Act.put, List.getElem_toArray, List.getElem_cons_succ, List.getElem_cons_zero, List.setIfInBounds_toArray, List.set_cons_zero, List.set_cons_succ])
          refine wpAnyH_ready (rs := [11]) (by kernel_rfl) (by simp) ?_
          refine AllReadyH.cons (o := _) rfl (fun K hK => ?_) ?_
          · go_simp
            refine (sameT (BigV.ext Vc.out hE) (BigV.zero _) rfl).mono ?_; rintro e z5 ⟨rfl, hy⟩; have hE := hE.trans hy
            refine hK.out _ _ ?_ (fun hHeld2 => ?_)
            · (first | exact ⟨cell_ext hy hHeld.1, cell_ext hy hHeld.2.1, cell_ext hy hHeld.2.2.1, cell_ext hy hHeld.2.2.2.1, cell_ext hy hHeld.2.2.2.2.1, cell_ext hy hHeld.2.2.2.2.2⟩ | exact ⟨ca0, ca1, cb0, cb1, cc0, cc1⟩ | exact hHeld)
            clear hK K hHeld
            have hHeld := hHeld2
            clear hHeld2
            (try simp only [Act.put, List.getElem_toArray, List.getElem_cons_succ, List.getElem_cons_zero, List.setIfInBounds_toArray, List.set_cons_zero, List.set_cons_succ])
            refine wpAnyH_take (i := 12) (oi := _) (v := ?_) rfl (by kernel_rfl) (by kernel_rfl) (by kernel_rfl) (fun _ _ _ h => h) (Or.inl ⟨by rfl, ?_⟩) (by assumption) ?_
            rotate_left
            · (intro w hSw; (try dsimp only at hSw); (try go_simp); (try with_reducible rfl))
            (try simp only [Act.put, List.getElem_toArray, List.getElem_cons_succ, List.getElem_cons_zero, List.setIfInBounds_toArray, List.set_cons_zero, List.set_cons_succ])
            refine wpAnyH_take (i := 13) (oi := _) (v := ?_) rfl (by kernel_rfl) (by kernel_rfl) (by kernel_rfl) (fun _ _ _ h => h) (Or.inl ⟨by rfl, ?_⟩) (by assumption) ?_
            rotate_left
            · (intro w hSw; (try dsimp only at hSw); (try go_simp); (try with_reducible rfl))
            (try simp only [Act.put, List.getElem_toArray, List.getElem_cons_succ, List.getElem_cons_zero, List.setIfInBounds_toArray, List.set_cons_zero, List.set_cons_succ])
            refine wpAnyH_take (i := 14) (oi := _) (v := ?_) rfl (by kernel_rfl) (by kernel_rfl) (by kernel_rfl) (fun _ _ _ h => h) (Or.inl ⟨by rfl, ?_⟩) (by assumption) ?_
            rotate_left
            · (intro w hSw; (try dsimp only at hSw); (try go_simp); (try with_reducible rfl))
            (try simp only [Act.put, List.getElem_toArray, List.getElem_cons_succ, List.getElem_cons_zero, List.setIfInBounds_toArray, List.set_cons_zero, List.set_cons_succ])
            refine wpAnyH_take (i := 15) (oi := _) (v := ?_) rfl (by kernel_rfl) (by kernel_rfl) (by kernel_rfl) (fun _ _ _ h => h) (Or.inl ⟨by rfl, ?_⟩) (by assumption) ?_
            rotate_left
            · (intro w hSw; (try dsimp only at hSw); (try go_simp); (try with_reducible rfl))
            (try simp only [Act.put, List.getElem_toArray, List.getElem_cons_succ, List.getElem_cons_zero, List.setIfInBounds_toArray, List.set_cons_zero, List.set_cons_succ])
            refine wpAnyH_take (i := 16) (oi := _) (v := ?_) rfl (by kernel_rfl) (by kernel_rfl) (by kernel_rfl) (fun _ _ _ h => h) (Or.inl ⟨by rfl, ?_⟩) (by assumption) ?_
            rotate_left
            · (intro w hSw; (try dsimp only at hSw); (try go_simp); (try with_reducible rfl))
            (try simp only [Act.put, List.getElem_toArray, List.getElem_cons_succ, List.getElem_cons_zero, List.setIfInBounds_toArray, List.set_cons_zero, List.set_cons_succ])
            refine wpAnyH_take (i := 17) (oi := _) (v := ?_) rfl (by kernel_rfl) (by kernel_rfl) (by kernel_rfl) (fun _ _ _ h => h) (Or.inl ⟨by rfl, ?_⟩) (by assumption) ?_
            rotate_left
            · (intro w hSw; (try dsimp only at hSw); (try go_simp); (try with_reducible rfl))
            (try simp only [Act.put, List.getElem_toArray, List.getElem_cons_succ, List.getElem_cons_zero, List.setIfInBounds_toArray, List.set_cons_zero, List.set_cons_succ])
            refine wpAnyH_take (i := 18) (oi := _) (v := ?_) rfl (by kernel_rfl) (by kernel_rfl) (by kernel_rfl) (fun _ _ _ h => h) (Or.inl ⟨by rfl, ?_⟩) (by assumption) ?_
            rotate_left
            · (intro w hSw; (try dsimp only at hSw); (try go_simp); (try with_reducible rfl))
            (try simp only [Act.put, List.getElem_toArray, List.getElem_cons_succ, List.getElem_cons_zero, List.setIfInBounds_toArray, List.set_cons_zero, List.set_cons_succ])
            refine wpAnyH_take (i := 19) (oi := _) (v := ?_) rfl (by kernel_rfl) (by kernel_rfl) (by kernel_rfl) (fun _ _ _ h => h) (Or.inl ⟨by rfl, ?_⟩) (by assumption) ?_
            rotate_left
            · (intro w hSw; (try dsimp only at hSw); (try go_simp); (try with_reducible rfl))
            (try simp only [Act.put, List.getElem_toArray, List.getElem_cons_succ, List.getElem_cons_zero, List.setIfInBounds_toArray, List.set_cons_zero, List.set_cons_succ])
            refine wpAnyH_take (i := 20) (oi := _) (v := ?_) rfl (by kernel_rfl) (by kernel_rfl) (by kernel_rfl) (fun _ _ _ h => h) (Or.inl ⟨by rfl, ?_⟩) (by assumption) ?_
            rotate_left
            · (intro w hSw; (try dsimp only at hSw); (try go_simp); (try with_reducible rfl))
            (try simp only [Act.put, List.getElem_toArray, List.getElem_cons_succ, List.getElem_cons_zero, List.setIfInBounds_toArray, List.set_cons_zero, List.set_cons_succ])
            refine wpAnyH_take (i := 21) (oi := _) (v := ?_) rfl (by kernel_rfl) (by kernel_rfl) (by kernel_rfl) (fun _ _ _ h => h) (Or.inl ⟨by rfl, ?_⟩) (by assumption) ?_
            rotate_left
            · (intro w hSw; (try dsimp only at hSw); (try go_simp); (try with_reducible rfl))
            (try simp only [Act.put, List.getElem_toArray, List.getElem_cons_succ, List.getElem_cons_zero, List.setIfInBounds_toArray, List.set_cons_zero, List.set_cons_succ])
            refine wpAnyH_take (i := 22) (oi := _) (v := ?_) rfl (by kernel_rfl) (by kernel_rfl) (by kernel_rfl) (fun _ _ _ h => h) (Or.inl ⟨by rfl, ?_⟩) (by assumption) ?_
            rotate_left
            · (intro w hSw; (try dsimp only at hSw); (try go_simp); (try with_reducible rfl))
            (try simp only [Act.put, List.getElem_toArray, List.getElem_cons_succ, List.getElem_cons_zero, List.setIfInBounds_toArray, List.set_cons_zero, List.set_cons_succ])
            refine wpAnyH_take (i := 23) (oi := _) (v := ?_) rfl (by kernel_rfl) (by kernel_rfl) (by kernel_rfl) (fun _ _ _ h => h) (Or.inl ⟨by rfl, ?_⟩) (by assumption) ?_
            rotate_left
            · (intro w hSw; (try dsimp only at hSw); (try go_simp); (try with_reducible rfl))
            (try simp only [Act.put, List.getElem_toArray, List.getElem_cons_succ, List.getElem_cons_zero, List.setIfInBounds_toArray, List.set_cons_zero, List.set_cons_succ])
            refine wpAnyH_take (i := 24) (oi := _) (v := ?_) rfl (by kernel_rfl) (by kernel_rfl) (by kernel_rfl) (fun _ _ _ h => h) (Or.inl ⟨by rfl, ?_⟩) (by assumption) ?_
            rotate_left
            · (intro w hSw; (try dsimp only at hSw); (try go_simp); (try with_reducible rfl))
            (try simp only [Act.put, List.getElem_toArray, List.getElem_cons_succ, List.getElem_cons_zero, List.setIfInBounds_toArray, List.set_cons_zero, List.set_cons_succ])
            refine wpAnyH_take (i := 25) (oi := _) (v := ?_) rfl (by kernel_rfl) (by kernel_rfl) (by kernel_rfl) (fun _ _ _ h => h) (Or.inl ⟨by rfl, ?_⟩) (by assumption) ?_
            rotate_left
            · (intro w hSw; (try dsimp only at hSw); (try go_simp); (try with_reducible rfl))
            (try simp only [Act.put, List.getElem_toArray, List.getElem_cons_succ, List.getElem_cons_zero, List.setIfInBounds_toArray, List.set_cons_zero, List.set_cons_succ])
            refine wpAnyH_take (i := 26) (oi := _) (v := ?_) rfl (by kernel_rfl) (by kernel_rfl) (by kernel_rfl) (fun _ _ _ h => h) (Or.inl ⟨by rfl, ?_⟩) (by assumption) ?_
            rotate_left
            · (intro w hSw; (try dsimp only at hSw); (try go_simp); (try with_reducible rfl))
            (try simp only [Act.put, List.getElem_toArray, List.getElem_cons_succ, List.getElem_cons_zero, List.setIfInBounds_toArray, List.set_cons_zero, List.set_cons_succ])
            refine wpAnyH_take (i := 27) (oi := _) (v := ?_) rfl (by kernel_rfl) (by kernel_rfl) (by kernel_rfl) (fun _ _ _ h => h) (Or.inl ⟨by rfl, ?_⟩) (by assumption) ?_
            rotate_left
            · (intro w hSw; (try dsimp only at hSw); (try go_simp); (try with_reducible rfl))
            (try simp only [Act.put, List.getElem_toArray, List.getElem_cons_succ, List.getElem_cons_zero, List.setIfInBounds_toArray, List.set_cons_zero, List.set_cons_succ])
            refine wpAnyH_take (i := 28) (oi := _) (v := ?_) rfl (by kernel_rfl) (by kernel_rfl) (by kernel_rfl) (fun _ _ _ h => h) (Or.inl ⟨by rfl, ?_⟩) (by assumption) ?_
            rotate_left
            · (intro w hSw; (try dsimp only at hSw); (try go_simp); (try with_reducible rfl))
            (try simp only [Act.put, List.getElem_toArray, List.getElem_cons_succ, List.getElem_cons_zero, List.setIfInBounds_toArray, List.set_cons_zero, List.set_cons_succ])
            refine wpAnyH_take (i := 29) (oi := _) (v := ?_) rfl (by kernel_rfl) (by kernel_rfl) (by kernel_rfl) (fun _ _ _ h => h) (Or.inl ⟨by rfl, ?_⟩) (by assumption) ?_
            rotate_left
            · (intro w hSw; (try dsimp only at hSw); (try go_simp); (try with_reducible rfl))
            (try simp only [Act.put, List.getElem_toArray, List.getElem_cons_succ, List.getElem_cons_zero, List.setIfInBounds_toArray, List.set_cons_zero, List.set_cons_succ])
            refine wpAnyH_done (by kernel_rfl) ?_ _
            (go_wp2_with fail; go_ret; exact ⟨rfl, hx.trans hE⟩)
          exact AllReadyH.nil
        exact AllReadyH.nil
      exact AllReadyH.nil
    exact AllReadyH.nil
  exact AllReadyH.nil
end Go.Proofs.Ytmkleegfbapakaa
