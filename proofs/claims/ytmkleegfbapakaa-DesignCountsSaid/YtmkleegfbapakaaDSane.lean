import Derived.Test.YtmkleegfbapakaaDSane0
namespace Go.Proofs.Ytmkleegfbapakaa
open Go.RowKit Go D28
set_option maxRecDepth 100000

set_option maxHeartbeats 8000000 in
theorem lawSane (w : World) : Calls Try.prog 15 #[] w fun e w' => e = .returned (.bool true) ∧ Ext w w' := by
  go_enter Try.func15, Try.ntmps15
  go_upto_region 2 with fail
  have i0 := ((((Blk.new0 w #[.int .i64 0, .int .i64 1] 3).alloc (.cells #[.int .i64 0, .int .i64 2] 3)).alloc (.cells #[.int .i64 1, .int .i64 2] 3)).alloc (.cells #[.slice (some ⟨w.heap.size, 0, none⟩) 2 2, .slice (some ⟨w.heap.size + 1, 0, none⟩) 2 2, .slice (some ⟨w.heap.size + 2, 0, none⟩) 2 2] 39)).ints (l := [0, 1]) (by simp) (by decide)
  have i1 := (((Blk.new1 w (.cells #[.int .i64 0, .int .i64 1] 3) #[.int .i64 0, .int .i64 2] 3).alloc (.cells #[.int .i64 1, .int .i64 2] 3)).alloc (.cells #[.slice (some ⟨w.heap.size, 0, none⟩) 2 2, .slice (some ⟨w.heap.size + 1, 0, none⟩) 2 2, .slice (some ⟨w.heap.size + 2, 0, none⟩) 2 2] 39)).ints (l := [0, 2]) (by simp) (by decide)
  have i2 := ((Blk.new2 w (.cells #[.int .i64 0, .int .i64 1] 3) (.cells #[.int .i64 0, .int .i64 2] 3) #[.int .i64 1, .int .i64 2] 3).alloc (.cells #[.slice (some ⟨w.heap.size, 0, none⟩) 2 2, .slice (some ⟨w.heap.size + 1, 0, none⟩) 2 2, .slice (some ⟨w.heap.size + 2, 0, none⟩) 2 2] 39)).ints (l := [1, 2]) (by simp) (by decide)
  have hx : Ext w ((((w.alloc (.cells #[.int .i64 0, .int .i64 1] 3)).alloc (.cells #[.int .i64 0, .int .i64 2] 3)).alloc (.cells #[.int .i64 1, .int .i64 2] 3)).alloc (.cells #[.slice (some ⟨w.heap.size, 0, none⟩) 2 2, .slice (some ⟨w.heap.size + 1, 0, none⟩) 2 2, .slice (some ⟨w.heap.size + 2, 0, none⟩) 2 2] 39)) := (by repeat (first | with_reducible exact Ext.refl _ | with_reducible assumption | with_reducible refine Ext.drewN ?_ _ | with_reducible refine Ext.drew ?_ | with_reducible refine Ext.alloc' ?_ _ | with_reducible refine Ext.set ?_ (by dsimp only; omega) _))
  have hB : Blk ((((w.alloc (.cells #[.int .i64 0, .int .i64 1] 3)).alloc (.cells #[.int .i64 0, .int .i64 2] 3)).alloc (.cells #[.int .i64 1, .int .i64 2] 3)).alloc (.cells #[.slice (some ⟨w.heap.size, 0, none⟩) 2 2, .slice (some ⟨w.heap.size + 1, 0, none⟩) 2 2, .slice (some ⟨w.heap.size + 2, 0, none⟩) 2 2] 39)) (w.heap.size + 3) #[.slice (some ⟨w.heap.size, 0, none⟩) 2 2, .slice (some ⟨w.heap.size + 1, 0, none⟩) 2 2, .slice (some ⟨w.heap.size + 2, 0, none⟩) 2 2] 39 := by
    have := Blk.new0 (((w.alloc (.cells #[.int .i64 0, .int .i64 1] 3)).alloc (.cells #[.int .i64 0, .int .i64 2] 3)).alloc (.cells #[.int .i64 1, .int .i64 2] 3)) #[.slice (some ⟨w.heap.size, 0, none⟩) 2 2, .slice (some ⟨w.heap.size + 1, 0, none⟩) 2 2, .slice (some ⟨w.heap.size + 2, 0, none⟩) 2 2] 39
    simpa using this
  generalize ((((w.alloc (.cells #[.int .i64 0, .int .i64 1] 3)).alloc (.cells #[.int .i64 0, .int .i64 2] 3)).alloc (.cells #[.int .i64 1, .int .i64 2] 3)).alloc (.cells #[.slice (some ⟨w.heap.size, 0, none⟩) 2 2, .slice (some ⟨w.heap.size + 1, 0, none⟩) 2 2, .slice (some ⟨w.heap.size + 2, 0, none⟩) 2 2] 39)) = wa at *
  have hR : Rows wa (some ⟨w.heap.size + 3, 0, none⟩) 3 three := hB.sl three (by decide) fun i hi => match i, hi with
    | 0, _ => ⟨_, rfl, _, _, rfl, i0⟩
    | 1, _ => ⟨_, rfl, _, _, rfl, i1⟩
    | 2, _ => ⟨_, rfl, _, _, rfl, i2⟩
  clear i0 i1 i2 hB
  go_wp2_with fail
  refine (free323 _).mono ?_
  rintro e0 w1 ⟨aw1, cw1, rfl, hb, hy⟩
  have hx := hx.trans hy
  have hR := hR.ext hy
  go_wp2_with fail
  refine (sMeas3 aw1 _ cw1 _ _ hb hR).mono ?_
  rintro e0 w2 ⟨rfl, hy⟩
  have hx := hx.trans hy
  go_upto_region 3 with fail
  have k2 := Lib.hid (Blk.new0 w2 #[.int .i64 2, .int .i64 2, .int .i64 1, .int .i64 2] 29)
  have hx := hx.alloc' (.cells #[.int .i64 2, .int .i64 2, .int .i64 1, .int .i64 2] 29)
  generalize w2.alloc (.cells #[.int .i64 2, .int .i64 2, .int .i64 1, .int .i64 2] 29) = w3 at *
  generalize w2.heap.size = pk2 at *
  clear hy
  clear hb hR
  go_wp2_with fail
  refine (free323 _).mono ?_
  rintro e0 w4 ⟨aw4, cw4, rfl, hb, hy⟩
  have hx := hx.trans hy
  have k2 := Lib.hid (k2.out.ext hy)
  go_wp2_with fail
  refine (sBound3 aw4 cw4 _ hb).mono ?_
  rintro e0 w5 ⟨rfl, hy⟩
  have hx := hx.trans hy
  have k2 := Lib.hid (k2.out.ext hy)
  go_upto_region 4 with fail
  have k4 := Lib.hid (Blk.new0 w5 #[.int .i64 2, .int .i64 2, .int .i64 1, .int .i64 0] 29)
  have k2 := Lib.hid (k2.out.alloc (.cells #[.int .i64 2, .int .i64 2, .int .i64 1, .int .i64 0] 29))
  have hx := hx.alloc' (.cells #[.int .i64 2, .int .i64 2, .int .i64 1, .int .i64 0] 29)
  generalize w5.alloc (.cells #[.int .i64 2, .int .i64 2, .int .i64 1, .int .i64 0] 29) = w6 at *
  generalize w5.heap.size = pk4 at *
  clear hy
  clear hb
  go_wp2_with fail
  refine (free211 _).mono ?_
  rintro e0 w7 ⟨aw7, cw7, rfl, hb, hy⟩
  have hx := hx.trans hy
  have k2 := Lib.hid (k2.out.ext hy)
  have k4 := Lib.hid (k4.out.ext hy)
  go_wp2_with fail
  refine (sBound1 aw7 cw7 _ hb).mono ?_
  rintro e0 w8 ⟨rfl, hy⟩
  have hx := hx.trans hy
  have k2 := Lib.hid (k2.out.ext hy)
  have k4 := Lib.hid (k4.out.ext hy)
  go_upto_region 5 with fail
  have k6 := Lib.hid (Blk.new0 w8 #[.int .i64 0, .int .i64 1, .int .i64 1, .int .i64 0] 29)
  have k2 := Lib.hid (k2.out.alloc (.cells #[.int .i64 0, .int .i64 1, .int .i64 1, .int .i64 0] 29))
  have k4 := Lib.hid (k4.out.alloc (.cells #[.int .i64 0, .int .i64 1, .int .i64 1, .int .i64 0] 29))
  have hx := hx.alloc' (.cells #[.int .i64 0, .int .i64 1, .int .i64 1, .int .i64 0] 29)
  generalize w8.alloc (.cells #[.int .i64 0, .int .i64 1, .int .i64 1, .int .i64 0] 29) = w9 at *
  generalize w8.heap.size = pk6 at *
  clear hy
  clear hb
  go_wp2_with fail
  refine (sBound0 _).mono ?_
  rintro e0 w10 ⟨rfl, hy⟩
  have hx := hx.trans hy
  have k2 := Lib.hid (k2.out.ext hy)
  have k4 := Lib.hid (k4.out.ext hy)
  have k6 := Lib.hid (k6.out.ext hy)
  go_upto_region 6 with fail
  have k8 := Lib.hid (Blk.new0 w10 #[.int .i64 0, .int .i64 0, .int .i64 0, .int .i64 0] 29)
  have k2 := Lib.hid (k2.out.alloc (.cells #[.int .i64 0, .int .i64 0, .int .i64 0, .int .i64 0] 29))
  have k4 := Lib.hid (k4.out.alloc (.cells #[.int .i64 0, .int .i64 0, .int .i64 0, .int .i64 0] 29))
  have k6 := Lib.hid (k6.out.alloc (.cells #[.int .i64 0, .int .i64 0, .int .i64 0, .int .i64 0] 29))
  have hx := hx.alloc' (.cells #[.int .i64 0, .int .i64 0, .int .i64 0, .int .i64 0] 29)
  generalize w10.alloc (.cells #[.int .i64 0, .int .i64 0, .int .i64 0, .int .i64 0] 29) = w11 at *
  generalize w10.heap.size = pk8 at *
  clear hy
  clear k8
  go_wp2_with fail
  refine (free211 _).mono ?_
  rintro e0 w12 ⟨aw12, cw12, rfl, hb, hy⟩
  have hx := hx.trans hy
  have k2 := Lib.hid (k2.out.ext hy)
  have k4 := Lib.hid (k4.out.ext hy)
  have k6 := Lib.hid (k6.out.ext hy)
  have i1 := ((Blk.new0 w12 #[.int .i64 1] 3).alloc (.cells #[.slice (some ⟨w12.heap.size, 0, none⟩) 1 1] 39)).ints (l := [1]) (by simp) (by decide)
  have hm := (Blk.new1 w12 (.cells #[.int .i64 1] 3) #[.slice (some ⟨w12.heap.size, 0, none⟩) 1 1] 39).rows1 i1
  have hb := (hb.ext (Ext.alloc _ (.cells #[.int .i64 1] 3))).ext (Ext.alloc _ (.cells #[.slice (some ⟨w12.heap.size, 0, none⟩) 1 1] 39))
  have hx := (hx.alloc' (.cells #[.int .i64 1] 3)).alloc' (.cells #[.slice (some ⟨w12.heap.size, 0, none⟩) 1 1] 39)
  have k2 := Lib.hid ((k2.out.alloc (.cells #[.int .i64 1] 3)).alloc (.cells #[.slice (some ⟨w12.heap.size, 0, none⟩) 1 1] 39))
  have k4 := Lib.hid ((k4.out.alloc (.cells #[.int .i64 1] 3)).alloc (.cells #[.slice (some ⟨w12.heap.size, 0, none⟩) 1 1] 39))
  have k6 := Lib.hid ((k6.out.alloc (.cells #[.int .i64 1] 3)).alloc (.cells #[.slice (some ⟨w12.heap.size, 0, none⟩) 1 1] 39))
  clear i1
  go_wp2_with fail
  refine (sMeas0 aw12 _ cw12 _ _ hb hm).mono ?_
  rintro e0 w13 ⟨rfl, hy⟩
  have hx := hx.trans hy
  have k2 := Lib.hid (k2.out.ext hy)
  have k4 := Lib.hid (k4.out.ext hy)
  have k6 := Lib.hid (k6.out.ext hy)
  go_upto_region 7 with fail
  have k10 := Lib.hid (Blk.new0 w13 #[.int .i64 0, .int .i64 0, .int .i64 0, .int .i64 0] 29)
  have k2 := Lib.hid (k2.out.alloc (.cells #[.int .i64 0, .int .i64 0, .int .i64 0, .int .i64 0] 29))
  have k4 := Lib.hid (k4.out.alloc (.cells #[.int .i64 0, .int .i64 0, .int .i64 0, .int .i64 0] 29))
  have k6 := Lib.hid (k6.out.alloc (.cells #[.int .i64 0, .int .i64 0, .int .i64 0, .int .i64 0] 29))
  have hx := hx.alloc' (.cells #[.int .i64 0, .int .i64 0, .int .i64 0, .int .i64 0] 29)
  generalize w13.alloc (.cells #[.int .i64 0, .int .i64 0, .int .i64 0, .int .i64 0] 29) = w14 at *
  generalize w13.heap.size = pk10 at *
  clear hy
  clear hb hm
  clear k10
  go_wp2_with fail
  refine (free211 _).mono ?_
  rintro e0 w15 ⟨aw15, cw15, rfl, hb, hy⟩
  have hx := hx.trans hy
  have k2 := Lib.hid (k2.out.ext hy)
  have k4 := Lib.hid (k4.out.ext hy)
  have k6 := Lib.hid (k6.out.ext hy)
  have i1 := ((Blk.new0 w15 #[.int .i64 1] 3).alloc (.cells #[.slice (some ⟨w15.heap.size, 0, none⟩) 1 1] 39)).ints (l := [1]) (by simp) (by decide)
  have hm := (Blk.new1 w15 (.cells #[.int .i64 1] 3) #[.slice (some ⟨w15.heap.size, 0, none⟩) 1 1] 39).rows1 i1
  have hb := (hb.ext (Ext.alloc _ (.cells #[.int .i64 1] 3))).ext (Ext.alloc _ (.cells #[.slice (some ⟨w15.heap.size, 0, none⟩) 1 1] 39))
  have hx := (hx.alloc' (.cells #[.int .i64 1] 3)).alloc' (.cells #[.slice (some ⟨w15.heap.size, 0, none⟩) 1 1] 39)
  have k2 := Lib.hid ((k2.out.alloc (.cells #[.int .i64 1] 3)).alloc (.cells #[.slice (some ⟨w15.heap.size, 0, none⟩) 1 1] 39))
  have k4 := Lib.hid ((k4.out.alloc (.cells #[.int .i64 1] 3)).alloc (.cells #[.slice (some ⟨w15.heap.size, 0, none⟩) 1 1] 39))
  have k6 := Lib.hid ((k6.out.alloc (.cells #[.int .i64 1] 3)).alloc (.cells #[.slice (some ⟨w15.heap.size, 0, none⟩) 1 1] 39))
  clear i1
  go_wp2_with fail
  refine (sMeas1 aw15 _ cw15 _ _ hb hm).mono ?_
  rintro e0 w16 ⟨rfl, hy⟩
  have hx := hx.trans hy
  have k2 := Lib.hid (k2.out.ext hy)
  have k4 := Lib.hid (k4.out.ext hy)
  have k6 := Lib.hid (k6.out.ext hy)
  go_upto_region 8 with fail
  have k12 := Lib.hid (Blk.new0 w16 #[.int .i64 0, .int .i64 1, .int .i64 1, .int .i64 0] 29)
  have k2 := Lib.hid (k2.out.alloc (.cells #[.int .i64 0, .int .i64 1, .int .i64 1, .int .i64 0] 29))
  have k4 := Lib.hid (k4.out.alloc (.cells #[.int .i64 0, .int .i64 1, .int .i64 1, .int .i64 0] 29))
  have k6 := Lib.hid (k6.out.alloc (.cells #[.int .i64 0, .int .i64 1, .int .i64 1, .int .i64 0] 29))
  have hx := hx.alloc' (.cells #[.int .i64 0, .int .i64 1, .int .i64 1, .int .i64 0] 29)
  generalize w16.alloc (.cells #[.int .i64 0, .int .i64 1, .int .i64 1, .int .i64 0] 29) = w17 at *
  generalize w16.heap.size = pk12 at *
  clear hy
  clear hb hm
  go_wp2_with fail
  refine (free1 _).mono ?_
  rintro e0 w18 ⟨g, cb, b, rfl, hg, hb, lb, lg, hgb, hc1, hc2, hy⟩
  have lb := Nat.le_trans hx.size lb
  have hx := hx.trans hy
  have k2 := Lib.hid (k2.out.ext hy)
  have k4 := Lib.hid (k4.out.ext hy)
  have k6 := Lib.hid (k6.out.ext hy)
  have k12 := Lib.hid (k12.out.ext hy)
  clear hy lg
  go_upto_region 9 with fail
  have k14 := Blk.new0 w18 #[.int .i64 2, .int .i64 1, .int .i64 0, .slice (some ⟨g, 0, none⟩) 1 cb] 24
  have k2 := Lib.hid (k2.out.alloc (.cells #[.int .i64 2, .int .i64 1, .int .i64 0, .slice (some ⟨g, 0, none⟩) 1 cb] 24))
  have k4 := Lib.hid (k4.out.alloc (.cells #[.int .i64 2, .int .i64 1, .int .i64 0, .slice (some ⟨g, 0, none⟩) 1 cb] 24))
  have k6 := Lib.hid (k6.out.alloc (.cells #[.int .i64 2, .int .i64 1, .int .i64 0, .slice (some ⟨g, 0, none⟩) 1 cb] 24))
  have k12 := Lib.hid (k12.out.alloc (.cells #[.int .i64 2, .int .i64 1, .int .i64 0, .slice (some ⟨g, 0, none⟩) 1 cb] 24))
  have hx := hx.alloc' (.cells #[.int .i64 2, .int .i64 1, .int .i64 0, .slice (some ⟨g, 0, none⟩) 1 cb] 24)
  have hbl := hb.lt
  have hgl := lt_of_cell hg
  have hg := ((Ext.alloc w18 (.cells #[.int .i64 2, .int .i64 1, .int .i64 0, .slice (some ⟨g, 0, none⟩) 1 cb] 24)).cell (p := ⟨g, 0, none⟩) hgl).trans hg
  have hb := hb.alloc (.cells #[.int .i64 2, .int .i64 1, .int .i64 0, .slice (some ⟨g, 0, none⟩) 1 cb] 24)
  generalize w18.alloc (.cells #[.int .i64 2, .int .i64 1, .int .i64 0, .slice (some ⟨g, 0, none⟩) 1 cb] 24) = w19 at *
  generalize w18.heap.size = p14 at *
  have c0 := k14.cell (i := 3) (v := .slice (some ⟨g, 0, none⟩) 1 cb) rfl
  have c1 := hb.cell (i := 1) (v := .bool false) rfl
  have f1 := hb.free 1
  go_upto_region 10 with fail
  clear c0 c1 f1
  have nk2 : pk2 ≠ b := fun e => by have h1 := k2.out; have h2 := hb; subst e; unfold Blk at h1 h2; rw [h1] at h2; simp at h2
  have nk4 : pk4 ≠ b := fun e => by have h1 := k4.out; have h2 := hb; subst e; unfold Blk at h1 h2; rw [h1] at h2; simp at h2
  have nk6 : pk6 ≠ b := fun e => by have h1 := k6.out; have h2 := hb; subst e; unfold Blk at h1 h2; rw [h1] at h2; simp at h2
  have nk12 : pk12 ≠ b := fun e => by have h1 := k12.out; have h2 := hb; subst e; unfold Blk at h1 h2; rw [h1] at h2; simp at h2
  have n14 : p14 ≠ b := fun e => by have h1 := k14; have h2 := hb; subst e; unfold Blk at h1 h2; rw [h1] at h2; simp at h2
  have hg := (World.cell?_setCell_far w19 ⟨b, 1, none⟩ ⟨g, 0, none⟩ (.bool true) (Ne.symm hgb)).trans hg
  have k2 := Lib.hid (k2.out.other (p := ⟨b, 1, none⟩) nk2 (.bool true))
  have k4 := Lib.hid (k4.out.other (p := ⟨b, 1, none⟩) nk4 (.bool true))
  have k6 := Lib.hid (k6.out.other (p := ⟨b, 1, none⟩) nk6 (.bool true))
  have k12 := Lib.hid (k12.out.other (p := ⟨b, 1, none⟩) nk12 (.bool true))
  have k14 := Lib.hid (k14.other (p := ⟨b, 1, none⟩) n14 (.bool true))
  have hb := hb.set 1 (.bool true)
  have hx := hx.set (p := ⟨b, 1, none⟩) lb (.bool true)
  have hr := brows1 (x := false) (y := true) hg hb hc1 hc2
  clear hg hb
  generalize w19.setCell ⟨b, 1, none⟩ (.bool true) = w20 at *
  go_wp2_with fail
  refine (free211 _).mono ?_
  rintro e0 w21 ⟨aw21, cw21, rfl, hb, hy⟩
  have hx := hx.trans hy
  have hr := hr.ext hy
  have k2 := Lib.hid (k2.out.ext hy)
  have k4 := Lib.hid (k4.out.ext hy)
  have k6 := Lib.hid (k6.out.ext hy)
  have k12 := Lib.hid (k12.out.ext hy)
  have k14 := Lib.hid (k14.out.ext hy)
  clear hy
  go_wp2_with fail
  have i1 := ((Blk.new0 w21 #[.int .i64 2] 3).alloc (.cells #[.slice (some ⟨w21.heap.size, 0, none⟩) 1 1] 39)).ints (l := [2]) (by simp) (by decide)
  have hm := (Blk.new1 w21 (.cells #[.int .i64 2] 3) #[.slice (some ⟨w21.heap.size, 0, none⟩) 1 1] 39).rows1 i1
  have hr2 := (hb.ext (Ext.alloc _ (.cells #[.int .i64 2] 3))).ext (Ext.alloc _ (.cells #[.slice (some ⟨w21.heap.size, 0, none⟩) 1 1] 39))
  have hr := (hr.ext (Ext.alloc _ (.cells #[.int .i64 2] 3))).ext (Ext.alloc _ (.cells #[.slice (some ⟨w21.heap.size, 0, none⟩) 1 1] 39))
  have hx := (hx.alloc' (.cells #[.int .i64 2] 3)).alloc' (.cells #[.slice (some ⟨w21.heap.size, 0, none⟩) 1 1] 39)
  have k2 := Lib.hid ((k2.out.alloc (.cells #[.int .i64 2] 3)).alloc (.cells #[.slice (some ⟨w21.heap.size, 0, none⟩) 1 1] 39))
  have k4 := Lib.hid ((k4.out.alloc (.cells #[.int .i64 2] 3)).alloc (.cells #[.slice (some ⟨w21.heap.size, 0, none⟩) 1 1] 39))
  have k6 := Lib.hid ((k6.out.alloc (.cells #[.int .i64 2] 3)).alloc (.cells #[.slice (some ⟨w21.heap.size, 0, none⟩) 1 1] 39))
  have k12 := Lib.hid ((k12.out.alloc (.cells #[.int .i64 2] 3)).alloc (.cells #[.slice (some ⟨w21.heap.size, 0, none⟩) 1 1] 39))
  have k14 := Lib.hid ((k14.out.alloc (.cells #[.int .i64 2] 3)).alloc (.cells #[.slice (some ⟨w21.heap.size, 0, none⟩) 1 1] 39))
  clear i1
  refine (sCheck 2 280 [false, false] aw21 _ cw21 _ _ hr2 hm (by decide)).mono ?_
  rintro e0 w22 ⟨rfl, hy⟩
  have hx := hx.trans hy
  have hr := hr.ext hy
  have k2 := Lib.hid (k2.out.ext hy)
  have k4 := Lib.hid (k4.out.ext hy)
  have k6 := Lib.hid (k6.out.ext hy)
  have k12 := Lib.hid (k12.out.ext hy)
  have k14 := Lib.hid (k14.out.ext hy)
  clear hr2 hm hy
  clear hb
  have c0 := k14.out.cell (i := 0) (v := .int .i64 2) rfl
  have c1 := k14.out.cell (i := 1) (v := .int .i64 1) rfl
  have c2 := k14.out.cell (i := 2) (v := .int .i64 0) rfl
  have c3 := k14.out.cell (i := 3) (v := .slice (some ⟨g, 0, none⟩) 1 cb) rfl
  go_wp2_with fail
  clear c0 c1 c2 c3
  have i1 := ((Blk.new0 w22 #[.int .i64 1] 3).alloc (.cells #[.slice (some ⟨w22.heap.size, 0, none⟩) 1 1] 39)).ints (l := [1]) (by simp) (by decide)
  have hm := (Blk.new1 w22 (.cells #[.int .i64 1] 3) #[.slice (some ⟨w22.heap.size, 0, none⟩) 1 1] 39).rows1 i1
  have hr2 := (hr.ext (Ext.alloc _ (.cells #[.int .i64 1] 3))).ext (Ext.alloc _ (.cells #[.slice (some ⟨w22.heap.size, 0, none⟩) 1 1] 39))
  have hr := hr2
  have hx := (hx.alloc' (.cells #[.int .i64 1] 3)).alloc' (.cells #[.slice (some ⟨w22.heap.size, 0, none⟩) 1 1] 39)
  have k2 := Lib.hid ((k2.out.alloc (.cells #[.int .i64 1] 3)).alloc (.cells #[.slice (some ⟨w22.heap.size, 0, none⟩) 1 1] 39))
  have k4 := Lib.hid ((k4.out.alloc (.cells #[.int .i64 1] 3)).alloc (.cells #[.slice (some ⟨w22.heap.size, 0, none⟩) 1 1] 39))
  have k6 := Lib.hid ((k6.out.alloc (.cells #[.int .i64 1] 3)).alloc (.cells #[.slice (some ⟨w22.heap.size, 0, none⟩) 1 1] 39))
  have k12 := Lib.hid ((k12.out.alloc (.cells #[.int .i64 1] 3)).alloc (.cells #[.slice (some ⟨w22.heap.size, 0, none⟩) 1 1] 39))
  have k14 := Lib.hid ((k14.out.alloc (.cells #[.int .i64 1] 3)).alloc (.cells #[.slice (some ⟨w22.heap.size, 0, none⟩) 1 1] 39))
  clear i1
  refine (sCheck 1 280 [false, true] _ _ _ _ _ hr2 hm (by decide)).mono ?_
  rintro e0 w23 ⟨rfl, hy⟩
  have hx := hx.trans hy
  have hr := hr.ext hy
  have k2 := Lib.hid (k2.out.ext hy)
  have k4 := Lib.hid (k4.out.ext hy)
  have k6 := Lib.hid (k6.out.ext hy)
  have k12 := Lib.hid (k12.out.ext hy)
  have k14 := Lib.hid (k14.out.ext hy)
  clear hr2 hm hy
  have c0 := k14.out.cell (i := 0) (v := .int .i64 2) rfl
  have c1 := k14.out.cell (i := 1) (v := .int .i64 1) rfl
  have c2 := k14.out.cell (i := 2) (v := .int .i64 0) rfl
  have c3 := k14.out.cell (i := 3) (v := .slice (some ⟨g, 0, none⟩) 1 cb) rfl
  go_wp2_with fail
  clear c0 c1 c2 c3
  have i1 := ((Blk.new0 w23 #[.int .i64 0] 3).alloc (.cells #[.slice (some ⟨w23.heap.size, 0, none⟩) 1 1] 39)).ints (l := [0]) (by simp) (by decide)
  have hm := (Blk.new1 w23 (.cells #[.int .i64 0] 3) #[.slice (some ⟨w23.heap.size, 0, none⟩) 1 1] 39).rows1 i1
  have hr2 := (hr.ext (Ext.alloc _ (.cells #[.int .i64 0] 3))).ext (Ext.alloc _ (.cells #[.slice (some ⟨w23.heap.size, 0, none⟩) 1 1] 39))
  have hr := hr2
  have hx := (hx.alloc' (.cells #[.int .i64 0] 3)).alloc' (.cells #[.slice (some ⟨w23.heap.size, 0, none⟩) 1 1] 39)
  have k2 := Lib.hid ((k2.out.alloc (.cells #[.int .i64 0] 3)).alloc (.cells #[.slice (some ⟨w23.heap.size, 0, none⟩) 1 1] 39))
  have k4 := Lib.hid ((k4.out.alloc (.cells #[.int .i64 0] 3)).alloc (.cells #[.slice (some ⟨w23.heap.size, 0, none⟩) 1 1] 39))
  have k6 := Lib.hid ((k6.out.alloc (.cells #[.int .i64 0] 3)).alloc (.cells #[.slice (some ⟨w23.heap.size, 0, none⟩) 1 1] 39))
  have k12 := Lib.hid ((k12.out.alloc (.cells #[.int .i64 0] 3)).alloc (.cells #[.slice (some ⟨w23.heap.size, 0, none⟩) 1 1] 39))
  have k14 := Lib.hid ((k14.out.alloc (.cells #[.int .i64 0] 3)).alloc (.cells #[.slice (some ⟨w23.heap.size, 0, none⟩) 1 1] 39))
  clear i1
  refine (sCheck 0 0 [false, true] _ _ _ _ _ hr2 hm (by decide)).mono ?_
  rintro e0 w24 ⟨rfl, hy⟩
  have hx := hx.trans hy
  have hr := hr.ext hy
  have k2 := Lib.hid (k2.out.ext hy)
  have k4 := Lib.hid (k4.out.ext hy)
  have k6 := Lib.hid (k6.out.ext hy)
  have k12 := Lib.hid (k12.out.ext hy)
  have k14 := Lib.hid (k14.out.ext hy)
  clear hr2 hm hy
  have ck20 := k2.out.cell (i := 0) (v := .int .i64 2) rfl
  have ck21 := k2.out.cell (i := 1) (v := .int .i64 2) rfl
  have ck22 := k2.out.cell (i := 2) (v := .int .i64 1) rfl
  have ck23 := k2.out.cell (i := 3) (v := .int .i64 2) rfl
  have ck40 := k4.out.cell (i := 0) (v := .int .i64 2) rfl
  have ck41 := k4.out.cell (i := 1) (v := .int .i64 2) rfl
  have ck42 := k4.out.cell (i := 2) (v := .int .i64 1) rfl
  have ck43 := k4.out.cell (i := 3) (v := .int .i64 0) rfl
  have ck60 := k6.out.cell (i := 0) (v := .int .i64 0) rfl
  have ck61 := k6.out.cell (i := 1) (v := .int .i64 1) rfl
  have ck62 := k6.out.cell (i := 2) (v := .int .i64 1) rfl
  have ck63 := k6.out.cell (i := 3) (v := .int .i64 0) rfl
  have ck120 := k12.out.cell (i := 0) (v := .int .i64 0) rfl
  have ck121 := k12.out.cell (i := 1) (v := .int .i64 1) rfl
  have ck122 := k12.out.cell (i := 2) (v := .int .i64 1) rfl
  have ck123 := k12.out.cell (i := 3) (v := .int .i64 0) rfl
  go_wp2_with fail
  go_ret
  exact ⟨rfl, hx⟩
end Go.Proofs.Ytmkleegfbapakaa
