import Derived.Test.YtpaaanbcadlhiaaDoorPFew
namespace Go.Proofs.YtpaaanbcadlhiaaDoor
open Go.RowKit Go BigFrame Go.Shelf
set_option maxRecDepth 100000
set_option linter.unusedSimpArgs false

/-! A store of what lies there already changes nothing. -/
theorem setCell_same {w : World} {b i : Nat} {cs : Array Value} {t : TypeId} {v : Value} (h : Blk w b cs t) (hc : cs[i]? = some v) : ∀ j : Nat, (w.setCell ⟨b, i, none⟩ v).heap[j]? = w.heap[j]? := fun j => by
  by_cases hj : j = b
  · subst hj
    have h1 : Blk (w.setCell ⟨j, i, none⟩ v) j (cs.setIfInBounds i v) t := h.set i v
    have h2 : cs.setIfInBounds i v = cs := by
      apply Array.ext_getElem?
      intro k
      rw [Array.getElem?_setIfInBounds]
      split
      · rename_i e; subst e; split
        · exact hc.symm
        · rename_i hn; exact absurd (Array.getElem?_eq_some_iff.1 hc).1 hn
      · rfl
    rw [h2] at h1
    exact h1.trans h.symm
  · exact Below.heap_setCell _ _ _ _ hj
theorem Ext.setSame {w w' : World} {b i : Nat} {cs : Array Value} {t : TypeId} {v : Value} (hx : Ext w w') (h : Blk w' b cs t) (hc : cs[i]? = some v) : Ext w (w'.setCell ⟨b, i, none⟩ v) := by
  refine ⟨hx.os, hx.tape, hx.output, ?_, fun j hj => ?_⟩
  · simpa [World.setCell] using hx.size
  · rw [setCell_same h hc]; exact hx.block j hj

set_option maxHeartbeats 1000000 in
/-- calculator.of, where nothing is wrong: the integer is handed on. -/
theorem calc_of (cb : Nat) (neg : Bool) (a : Option Addr) (cap : Nat) (l : List Int) (w : World) (hc : Blk w cb #[.bool false] 49) (h : Ints w a cap l) (hk : chkB neg l = true) :
    Calls Tryd.prog 35 #[.pointer (some ⟨cb, 0, none⟩), .agg #[.bool neg, .slice a l.length cap], .int .i64 0] w fun e w' => e = .returned (.agg #[.bool neg, .slice a l.length cap]) ∧ Ext w w' := by
  have B1 := (Blk.new0 w #[.bool neg, .slice a l.length cap] 24).alloc (.cells #[.bool false, .slice none 0 0] 24)
  have B2 := Blk.new1 w (.cells #[.bool neg, .slice a l.length cap] 24) #[.bool false, .slice none 0 0] 24
  have hx : Ext w ((w.alloc (.cells #[.bool neg, .slice a l.length cap] 24)).alloc (.cells #[.bool false, .slice none 0 0] 24)) := (by repeat (first | with_reducible exact Ext.refl _ | with_reducible assumption | with_reducible refine Ext.drewN ?_ _ | with_reducible refine Ext.drew ?_ | with_reducible refine Ext.alloc' ?_ _ | with_reducible refine Ext.set ?_ (by dsimp only; omega) _))
  obtain ⟨w1, hw1⟩ : ∃ w1, (w.alloc (.cells #[.bool neg, .slice a l.length cap] 24)).alloc (.cells #[.bool false, .slice none 0 0] 24) = w1 := ⟨_, rfl⟩
  rw [hw1] at B1 B2 hx
  have HC := ref_Check neg a cap l w1 (h.ext hx)
  rw [hk] at HC
  have HC := Lib.hid (show Calls Tryd.prog 33 _ w1 fun e w' => e = .returned (.int .i64 0) ∧ Ext w1 w' from HC)
  have c0 := B1.cell (i := 0) (v := .bool neg) rfl
  have c1 := B1.cell (i := 1) (v := .slice a l.length cap) rfl
  have cc := (hc.ext hx).cell (i := 0) (v := .bool false) rfl
  have H1 := Lib.hid B1
  have H2 := Lib.hid B2
  have HCB := Lib.hid (hc.ext hx)
  have hlt := hc.lt
  have HW := Lib.hid hw1
  clear B1 B2 hw1 h hc hk
  go_enter Tryd.func35, Tryd.ntmps35
  go_upto_region 1 with fail
  rw [HW.out]
  go_wp2_with fail
  refine HC.out.mono ?_
  rintro e w2 ⟨rfl, hy⟩
  have hx2 := hx.trans hy
  have K := HCB.out.ext hy
  have cc2 := K.cell (i := 0) (v := .bool false) rfl
  have ff := K.free 0
  have hx3 := hx2.setSame K (i := 0) (v := .bool false) rfl
  have N1 := (H1.out.ext hy).other (p := ⟨cb, 0, none⟩) (by dsimp only; omega) (.bool false)
  have N2 := (H2.out.ext hy).other (p := ⟨cb, 0, none⟩) (by dsimp only; omega) (.bool false)
  have HX3 := Lib.hid hx3
  have HN2 := Lib.hid N2
  have d0 := N1.cell (i := 0) (v := .bool neg) rfl
  have d1 := N1.cell (i := 1) (v := .slice a l.length cap) rfl
  have g0 := N2.cell (i := 0) (v := .bool false) rfl
  have g1 := N2.cell (i := 1) (v := .slice none 0 0) rfl
  have u0 := N2.free 0
  have u1 := N2.free 1
  clear c0 c1 cc hx3 N1 N2 K HC hx2
  go_upto_region 2 with fail
  generalize w2.setCell ⟨cb, 0, none⟩ (.bool false) = w3 at *
  go_wp2_with fail
  have k2 := (HN2.out.set 0 (.bool neg)).set 1 (.slice a l.length cap)
  have e0 := k2.cell (i := 0) (v := .bool neg) rfl
  have e1 := k2.cell (i := 1) (v := .slice a l.length cap) rfl
  refine bodyPost_ret (v := .agg #[.bool neg, .slice a l.length cap]) (by simp [results, Tryd.results35, go_sem, e0, e1]) rfl ?_
  exact ⟨rfl, (HX3.out.set (p := ⟨w.heap.size + 1, 0, none⟩) (by dsimp only; omega) _).set (p := ⟨w.heap.size + 1, 1, none⟩) (by dsimp only; omega) _⟩
end Go.Proofs.YtpaaanbcadlhiaaDoor

namespace Go.Proofs.YtpaaanbcadlhiaaDoor
open Go.RowKit Go BigFrame Go.Shelf
set_option maxRecDepth 100000
set_option linter.unusedSimpArgs false

theorem sub_one {v u : Value} {z y : Int} {w : World} (hv : BigV w v z) (hu : BigV w u y) (hz : Len z) (hy : Len y) (hs : Len (z - y)) : Calls Tryd.prog 41 #[v, u] w (OneP (z - y) w) :=
  (sub_val hv hu hz hy).mono fun e w' h => by
    rcases h with ⟨_, h⟩ | ⟨h, _⟩
    · exact h
    · unfold Len at hs; omega
set_option maxHeartbeats 1000000 in
theorem calc_add (cb : Nat) {v u : Value} {z y : Int} (w : World) (hc : Blk w cb #[.bool false] 49) (hv : BigV w v z) (hu : BigV w u y) (hz : Len z) (hy : Len y) (hs : Len (z + y)) :
    Calls Tryd.prog 38 #[.pointer (some ⟨cb, 0, none⟩), v, u] w (BigP (z + y) w) := by
  obtain ⟨n1, l, ⟨a, ca, rfl, hi⟩, hb⟩ := hv
  obtain ⟨n2, m, ⟨b, cb2, rfl, hj⟩, hd⟩ := hu
  have B1 := ((Blk.new0 w #[.bool n1, .slice a l.length ca] 24).alloc (.cells #[.bool n2, .slice b m.length cb2] 24)).alloc (.cells #[.bool false, .slice none 0 0] 24)
  have B2 := (Blk.new1 w (.cells #[.bool n1, .slice a l.length ca] 24) #[.bool n2, .slice b m.length cb2] 24).alloc (.cells #[.bool false, .slice none 0 0] 24)
  have B3 := Blk.new2 w (.cells #[.bool n1, .slice a l.length ca] 24) (.cells #[.bool n2, .slice b m.length cb2] 24) #[.bool false, .slice none 0 0] 24
  have hx : Ext w (((w.alloc (.cells #[.bool n1, .slice a l.length ca] 24)).alloc (.cells #[.bool n2, .slice b m.length cb2] 24)).alloc (.cells #[.bool false, .slice none 0 0] 24)) := (by repeat (first | with_reducible exact Ext.refl _ | with_reducible assumption | with_reducible refine Ext.drewN ?_ _ | with_reducible refine Ext.drew ?_ | with_reducible refine Ext.alloc' ?_ _ | with_reducible refine Ext.set ?_ (by dsimp only; omega) _))
  obtain ⟨w1, hw1⟩ : ∃ w1, (((w.alloc (.cells #[.bool n1, .slice a l.length ca] 24)).alloc (.cells #[.bool n2, .slice b m.length cb2] 24)).alloc (.cells #[.bool false, .slice none 0 0] 24)) = w1 := ⟨_, rfl⟩
  rw [hw1] at B1 B2 B3 hx
  have hv0 : BigV w1 (.agg #[.bool n1, .slice a l.length ca]) z := ⟨n1, l, ⟨a, ca, rfl, hi.ext hx⟩, hb⟩
  have hu0 : BigV w1 (.agg #[.bool n2, .slice b m.length cb2]) y := ⟨n2, m, ⟨b, cb2, rfl, hj.ext hx⟩, hd⟩
  have HO := Lib.hid (add_one hv0 hu0 hz hy hs)
  have c0 := B1.cell (i := 0) (v := .bool n1) rfl
  have c1 := B1.cell (i := 1) (v := .slice a l.length ca) rfl
  have c2 := B2.cell (i := 0) (v := .bool n2) rfl
  have c3 := B2.cell (i := 1) (v := .slice b m.length cb2) rfl
  have H3 := Lib.hid B3
  have HCB := Lib.hid (hc.ext hx)
  have HW := Lib.hid hw1
  have HSL := Lib.hid hs
  have hl3 := B3.lt
  generalize z + y = r at *
  clear B1 B2 B3 hw1 hv0 hu0 hi hj hb hd hc hz hy hs
  go_enter Tryd.func38, Tryd.ntmps38
  go_upto_region 1 with fail
  rw [HW.out]
  simp only [Nat.add_assoc, Nat.reduceAdd]
  go_wp2_with fail
  refine HO.out.mono ?_
  rintro e w2 ⟨v, rfl, hv, hy2⟩
  obtain ⟨n3, a3, c3', l3, rfl, hi3, hb3, hf3⟩ := hv
  have HK := Lib.hid (calc_of cb n3 a3 c3' l3 w2 (HCB.out.ext hy2) hi3 (hb3.chk HSL.out))
  have HI3 := Lib.hid hi3
  have HB3 := Lib.hid hb3
  have HF3 := Lib.hid hf3
  have hxx := hx.trans hy2
  have H3' := Lib.hid (H3.out.ext hy2)
  clear hi3 hb3 hf3 c0 c1 c2 c3 HO
  go_wp2_with fail
  refine HK.out.mono ?_
  rintro e w3 ⟨rfl, hy3⟩
  have K := H3'.out.ext hy3
  have d0 := K.cell (i := 0) (v := .bool false) rfl
  have d1 := K.cell (i := 1) (v := .slice none 0 0) rfl
  have f0 := K.free 0
  have f1 := K.free 1
  have HKB := Lib.hid K
  have hx3 := hxx.trans hy3
  have HI4 := Lib.hid (HI3.out.ext hy3)
  clear K HK
  go_wp2_with fail
  have k2 := (HKB.out.set 0 (.bool n3)).set 1 (.slice a3 l3.length c3')
  have e0 := k2.cell (i := 0) (v := .bool n3) rfl
  have e1 := k2.cell (i := 1) (v := .slice a3 l3.length c3') rfl
  have hs1 := hx.size
  refine bodyPost_ret (v := .agg #[.bool n3, .slice a3 l3.length c3']) (by simp [results, Tryd.results38, go_sem, e0, e1]) rfl ?_
  exact ⟨_, rfl, ⟨n3, a3, c3', l3, rfl, (HI4.out.putO (p := ⟨w.heap.size + 2, 0, none⟩) (fun A hA => by have := HF3.out A hA; dsimp only; omega) _).putO (p := ⟨w.heap.size + 2, 1, none⟩) (fun A hA => by have := HF3.out A hA; dsimp only; omega) _, HB3.out, fun A hA => by have := HF3.out A hA; omega⟩,
    (hx3.set (p := ⟨w.heap.size + 2, 0, none⟩) (by dsimp only; omega) _).set (p := ⟨w.heap.size + 2, 1, none⟩) (by dsimp only; omega) _⟩
set_option maxHeartbeats 1000000 in
theorem calc_sub (cb : Nat) {v u : Value} {z y : Int} (w : World) (hc : Blk w cb #[.bool false] 49) (hv : BigV w v z) (hu : BigV w u y) (hz : Len z) (hy : Len y) (hs : Len (z - y)) :
    Calls Tryd.prog 36 #[.pointer (some ⟨cb, 0, none⟩), v, u] w (BigP (z - y) w) := by
  obtain ⟨n1, l, ⟨a, ca, rfl, hi⟩, hb⟩ := hv
  obtain ⟨n2, m, ⟨b, cb2, rfl, hj⟩, hd⟩ := hu
  have B1 := ((Blk.new0 w #[.bool n1, .slice a l.length ca] 24).alloc (.cells #[.bool n2, .slice b m.length cb2] 24)).alloc (.cells #[.bool false, .slice none 0 0] 24)
  have B2 := (Blk.new1 w (.cells #[.bool n1, .slice a l.length ca] 24) #[.bool n2, .slice b m.length cb2] 24).alloc (.cells #[.bool false, .slice none 0 0] 24)
  have B3 := Blk.new2 w (.cells #[.bool n1, .slice a l.length ca] 24) (.cells #[.bool n2, .slice b m.length cb2] 24) #[.bool false, .slice none 0 0] 24
  have hx : Ext w (((w.alloc (.cells #[.bool n1, .slice a l.length ca] 24)).alloc (.cells #[.bool n2, .slice b m.length cb2] 24)).alloc (.cells #[.bool false, .slice none 0 0] 24)) := (by repeat (first | with_reducible exact Ext.refl _ | with_reducible assumption | with_reducible refine Ext.drewN ?_ _ | with_reducible refine Ext.drew ?_ | with_reducible refine Ext.alloc' ?_ _ | with_reducible refine Ext.set ?_ (by dsimp only; omega) _))
  obtain ⟨w1, hw1⟩ : ∃ w1, (((w.alloc (.cells #[.bool n1, .slice a l.length ca] 24)).alloc (.cells #[.bool n2, .slice b m.length cb2] 24)).alloc (.cells #[.bool false, .slice none 0 0] 24)) = w1 := ⟨_, rfl⟩
  rw [hw1] at B1 B2 B3 hx
  have hv0 : BigV w1 (.agg #[.bool n1, .slice a l.length ca]) z := ⟨n1, l, ⟨a, ca, rfl, hi.ext hx⟩, hb⟩
  have hu0 : BigV w1 (.agg #[.bool n2, .slice b m.length cb2]) y := ⟨n2, m, ⟨b, cb2, rfl, hj.ext hx⟩, hd⟩
  have HO := Lib.hid (sub_one hv0 hu0 hz hy hs)
  have c0 := B1.cell (i := 0) (v := .bool n1) rfl
  have c1 := B1.cell (i := 1) (v := .slice a l.length ca) rfl
  have c2 := B2.cell (i := 0) (v := .bool n2) rfl
  have c3 := B2.cell (i := 1) (v := .slice b m.length cb2) rfl
  have H3 := Lib.hid B3
  have HCB := Lib.hid (hc.ext hx)
  have HW := Lib.hid hw1
  have HSL := Lib.hid hs
  have hl3 := B3.lt
  generalize z - y = r at *
  clear B1 B2 B3 hw1 hv0 hu0 hi hj hb hd hc hz hy hs
  go_enter Tryd.func36, Tryd.ntmps36
  go_upto_region 1 with fail
  rw [HW.out]
  simp only [Nat.add_assoc, Nat.reduceAdd]
  go_wp2_with fail
  refine HO.out.mono ?_
  rintro e w2 ⟨v, rfl, hv, hy2⟩
  obtain ⟨n3, a3, c3', l3, rfl, hi3, hb3, hf3⟩ := hv
  have HK := Lib.hid (calc_of cb n3 a3 c3' l3 w2 (HCB.out.ext hy2) hi3 (hb3.chk HSL.out))
  have HI3 := Lib.hid hi3
  have HB3 := Lib.hid hb3
  have HF3 := Lib.hid hf3
  have hxx := hx.trans hy2
  have H3' := Lib.hid (H3.out.ext hy2)
  clear hi3 hb3 hf3 c0 c1 c2 c3 HO
  go_wp2_with fail
  refine HK.out.mono ?_
  rintro e w3 ⟨rfl, hy3⟩
  have K := H3'.out.ext hy3
  have d0 := K.cell (i := 0) (v := .bool false) rfl
  have d1 := K.cell (i := 1) (v := .slice none 0 0) rfl
  have f0 := K.free 0
  have f1 := K.free 1
  have HKB := Lib.hid K
  have hx3 := hxx.trans hy3
  have HI4 := Lib.hid (HI3.out.ext hy3)
  clear K HK
  go_wp2_with fail
  have k2 := (HKB.out.set 0 (.bool n3)).set 1 (.slice a3 l3.length c3')
  have e0 := k2.cell (i := 0) (v := .bool n3) rfl
  have e1 := k2.cell (i := 1) (v := .slice a3 l3.length c3') rfl
  have hs1 := hx.size
  refine bodyPost_ret (v := .agg #[.bool n3, .slice a3 l3.length c3']) (by simp [results, Tryd.results36, go_sem, e0, e1]) rfl ?_
  exact ⟨_, rfl, ⟨n3, a3, c3', l3, rfl, (HI4.out.putO (p := ⟨w.heap.size + 2, 0, none⟩) (fun A hA => by have := HF3.out A hA; dsimp only; omega) _).putO (p := ⟨w.heap.size + 2, 1, none⟩) (fun A hA => by have := HF3.out A hA; dsimp only; omega) _, HB3.out, fun A hA => by have := HF3.out A hA; omega⟩,
    (hx3.set (p := ⟨w.heap.size + 2, 0, none⟩) (by dsimp only; omega) _).set (p := ⟨w.heap.size + 2, 1, none⟩) (by dsimp only; omega) _⟩
set_option maxHeartbeats 1000000 in
theorem calc_mul (cb : Nat) {v u : Value} {z y : Int} (w : World) (hc : Blk w cb #[.bool false] 49) (hv : BigV w v z) (hu : BigV w u y) (hz : Len z) (hy : Len y) (hs : Len (z * y)) :
    Calls Tryd.prog 37 #[.pointer (some ⟨cb, 0, none⟩), v, u] w (BigP (z * y) w) := by
  obtain ⟨n1, l, ⟨a, ca, rfl, hi⟩, hb⟩ := hv
  obtain ⟨n2, m, ⟨b, cb2, rfl, hj⟩, hd⟩ := hu
  have B1 := ((Blk.new0 w #[.bool n1, .slice a l.length ca] 24).alloc (.cells #[.bool n2, .slice b m.length cb2] 24)).alloc (.cells #[.bool false, .slice none 0 0] 24)
  have B2 := (Blk.new1 w (.cells #[.bool n1, .slice a l.length ca] 24) #[.bool n2, .slice b m.length cb2] 24).alloc (.cells #[.bool false, .slice none 0 0] 24)
  have B3 := Blk.new2 w (.cells #[.bool n1, .slice a l.length ca] 24) (.cells #[.bool n2, .slice b m.length cb2] 24) #[.bool false, .slice none 0 0] 24
  have hx : Ext w (((w.alloc (.cells #[.bool n1, .slice a l.length ca] 24)).alloc (.cells #[.bool n2, .slice b m.length cb2] 24)).alloc (.cells #[.bool false, .slice none 0 0] 24)) := (by repeat (first | with_reducible exact Ext.refl _ | with_reducible assumption | with_reducible refine Ext.drewN ?_ _ | with_reducible refine Ext.drew ?_ | with_reducible refine Ext.alloc' ?_ _ | with_reducible refine Ext.set ?_ (by dsimp only; omega) _))
  obtain ⟨w1, hw1⟩ : ∃ w1, (((w.alloc (.cells #[.bool n1, .slice a l.length ca] 24)).alloc (.cells #[.bool n2, .slice b m.length cb2] 24)).alloc (.cells #[.bool false, .slice none 0 0] 24)) = w1 := ⟨_, rfl⟩
  rw [hw1] at B1 B2 B3 hx
  have hv0 : BigV w1 (.agg #[.bool n1, .slice a l.length ca]) z := ⟨n1, l, ⟨a, ca, rfl, hi.ext hx⟩, hb⟩
  have hu0 : BigV w1 (.agg #[.bool n2, .slice b m.length cb2]) y := ⟨n2, m, ⟨b, cb2, rfl, hj.ext hx⟩, hd⟩
  have HO := Lib.hid (mul_val hv0 hu0 hz hy hs)
  have c0 := B1.cell (i := 0) (v := .bool n1) rfl
  have c1 := B1.cell (i := 1) (v := .slice a l.length ca) rfl
  have c2 := B2.cell (i := 0) (v := .bool n2) rfl
  have c3 := B2.cell (i := 1) (v := .slice b m.length cb2) rfl
  have H3 := Lib.hid B3
  have HCB := Lib.hid (hc.ext hx)
  have HW := Lib.hid hw1
  have HSL := Lib.hid hs
  have hl3 := B3.lt
  generalize z * y = r at *
  clear B1 B2 B3 hw1 hv0 hu0 hi hj hb hd hc hz hy hs
  go_enter Tryd.func37, Tryd.ntmps37
  go_upto_region 1 with fail
  rw [HW.out]
  simp only [Nat.add_assoc, Nat.reduceAdd]
  go_wp2_with fail
  refine HO.out.mono ?_
  rintro e w2 ⟨v, rfl, hv, hy2⟩
  obtain ⟨n3, a3, c3', l3, rfl, hi3, hb3, hf3⟩ := hv
  have HK := Lib.hid (calc_of cb n3 a3 c3' l3 w2 (HCB.out.ext hy2) hi3 (hb3.chk HSL.out))
  have HI3 := Lib.hid hi3
  have HB3 := Lib.hid hb3
  have HF3 := Lib.hid hf3
  have hxx := hx.trans hy2
  have H3' := Lib.hid (H3.out.ext hy2)
  clear hi3 hb3 hf3 c0 c1 c2 c3 HO
  go_wp2_with fail
  refine HK.out.mono ?_
  rintro e w3 ⟨rfl, hy3⟩
  have K := H3'.out.ext hy3
  have d0 := K.cell (i := 0) (v := .bool false) rfl
  have d1 := K.cell (i := 1) (v := .slice none 0 0) rfl
  have f0 := K.free 0
  have f1 := K.free 1
  have HKB := Lib.hid K
  have hx3 := hxx.trans hy3
  have HI4 := Lib.hid (HI3.out.ext hy3)
  clear K HK
  go_wp2_with fail
  have k2 := (HKB.out.set 0 (.bool n3)).set 1 (.slice a3 l3.length c3')
  have e0 := k2.cell (i := 0) (v := .bool n3) rfl
  have e1 := k2.cell (i := 1) (v := .slice a3 l3.length c3') rfl
  have hs1 := hx.size
  refine bodyPost_ret (v := .agg #[.bool n3, .slice a3 l3.length c3']) (by simp [results, Tryd.results37, go_sem, e0, e1]) rfl ?_
  exact ⟨_, rfl, ⟨n3, a3, c3', l3, rfl, (HI4.out.putO (p := ⟨w.heap.size + 2, 0, none⟩) (fun A hA => by have := HF3.out A hA; dsimp only; omega) _).putO (p := ⟨w.heap.size + 2, 1, none⟩) (fun A hA => by have := HF3.out A hA; dsimp only; omega) _, HB3.out, fun A hA => by have := HF3.out A hA; omega⟩,
    (hx3.set (p := ⟨w.heap.size + 2, 0, none⟩) (by dsimp only; omega) _).set (p := ⟨w.heap.size + 2, 1, none⟩) (by dsimp only; omega) _⟩
end Go.Proofs.YtpaaanbcadlhiaaDoor

namespace Go.Proofs.YtpaaanbcadlhiaaDoor
open Go.RowKit Go BigFrame Go.Shelf
set_option maxRecDepth 100000
set_option linter.unusedSimpArgs false

set_option maxHeartbeats 1000000 in
theorem calc_cmp (cb : Nat) {v u : Value} {z y : Int} (w : World) (hc : Blk w cb #[.bool false] 49) (hv : BigV w v z) (hu : BigV w u y) (hz : Len z) (hy : Len y) :
    Calls Tryd.prog 45 #[.pointer (some ⟨cb, 0, none⟩), v, u] w fun e w' => e = .returned (.int .i64 (cmpI z y)) ∧ Ext w w' := by
  obtain ⟨n1, l, ⟨a, ca, rfl, hi⟩, hb⟩ := hv
  obtain ⟨n2, m, ⟨b, cb2, rfl, hj⟩, hd⟩ := hu
  have B1 := (Blk.new0 w #[.bool n1, .slice a l.length ca] 24).alloc (.cells #[.bool n2, .slice b m.length cb2] 24)
  have B2 := Blk.new1 w (.cells #[.bool n1, .slice a l.length ca] 24) #[.bool n2, .slice b m.length cb2] 24
  have hx : Ext w ((w.alloc (.cells #[.bool n1, .slice a l.length ca] 24)).alloc (.cells #[.bool n2, .slice b m.length cb2] 24)) := (by repeat (first | with_reducible exact Ext.refl _ | with_reducible assumption | with_reducible refine Ext.drewN ?_ _ | with_reducible refine Ext.drew ?_ | with_reducible refine Ext.alloc' ?_ _ | with_reducible refine Ext.set ?_ (by dsimp only; omega) _))
  obtain ⟨w1, hw1⟩ : ∃ w1, (w.alloc (.cells #[.bool n1, .slice a l.length ca] 24)).alloc (.cells #[.bool n2, .slice b m.length cb2] 24) = w1 := ⟨_, rfl⟩
  rw [hw1] at B1 B2 hx
  have hv0 : BigV w1 (.agg #[.bool n1, .slice a l.length ca]) z := ⟨n1, l, ⟨a, ca, rfl, hi.ext hx⟩, hb⟩
  have hu0 : BigV w1 (.agg #[.bool n2, .slice b m.length cb2]) y := ⟨n2, m, ⟨b, cb2, rfl, hj.ext hx⟩, hd⟩
  have HO := Lib.hid (cmp_val hv0 hu0 hz hy)
  have c0 := B1.cell (i := 0) (v := .bool n1) rfl
  have c1 := B1.cell (i := 1) (v := .slice a l.length ca) rfl
  have c2 := B2.cell (i := 0) (v := .bool n2) rfl
  have c3 := B2.cell (i := 1) (v := .slice b m.length cb2) rfl
  have HCB := Lib.hid (hc.ext hx)
  have HW := Lib.hid hw1
  clear B1 B2 hw1 hv0 hu0 hi hj hb hd hc hz hy
  go_enter Tryd.func45, Tryd.ntmps45
  go_upto_region 1 with fail
  rw [HW.out]
  go_wp2_with fail
  refine HO.out.mono ?_
  rintro e w2 ⟨rfl, hy2⟩
  have K := HCB.out.ext hy2
  have cc := K.cell (i := 0) (v := .bool false) rfl
  have ff := K.free 0
  have hfin := (hx.trans hy2).setSame K (i := 0) (v := .bool false) rfl
  have HFIN := Lib.hid hfin
  clear c0 c1 c2 c3 HO K hfin
  go_wp2_with fail
  go_ret
  exact ⟨rfl, HFIN.out⟩
end Go.Proofs.YtpaaanbcadlhiaaDoor

