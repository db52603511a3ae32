import Derived.Test.YtpaaanbcadlhiaaDoorPCalc2
namespace Go.Proofs.YtpaaanbcadlhiaaDoor
open Go.RowKit Go BigFrame Go.Shelf
set_option maxRecDepth 100000
set_option linter.unusedSimpArgs false

set_option maxHeartbeats 1000000 in
theorem calc_cmp (cb : Nat) {v u : Value} {z y : Int} (w : World) (hc : Blk w cb #[.bool false] 49) (hv : BigV w v z) (hu : BigV w u y) (hz : Len z) (hy : Len y) :
    Calls Tryd.prog 45 #[.pointer (some ⟨cb, 0, none⟩), v, u] w fun e w' => e = .returned (.int .i64 (cmpI z y)) ∧ Ext w w' := by
  obtain ⟨n1, l, ⟨a, ca, rfl, hi⟩, hb⟩ := hv
  obtain ⟨n2, m, ⟨b, cb2, rfl, hj⟩, hd⟩ := hu
  have B1 := (Blk.new0 w #[.bool n1, .slice a l.length ca] 24).alloc (.cells #[.bool n2, .slice b m.length cb2] 24)
  have B2 := Blk.new1 w (.cells #[.bool n1, .slice a l.length ca] 24) #[.bool n2, .slice b m.length cb2] 24
  have hx : Ext w ((w.alloc (.cells #[.bool n1, .slice a l.length ca] 24)).alloc (.cells #[.bool n2, .slice b m.length cb2] 24)) := (by repeat (first | with_reducible exact Ext.refl _ | with_reducible assumption | with_reducible refine Ext.drewN ?_ _ | with_reducible refine Ext.drew ?_ | with_reducible refine Ext.alloc' ?_ _ | with_reducible refine Ext.set ?_ (by dsimp only; omega) _))
  obtain ⟨w1, hw1⟩ : ∃ w1, (w.alloc (.cells #[.bool n1, .slice a l.length ca] 24)).alloc (.cells #[.bool n2, .slice b m.length cb2] 24) = w1 := ⟨_, rfl⟩
  rw [hw1] at B1 B2 hx
  have hv0 : BigV w1 (.agg #[.bool n1, .slice a l.length ca]) z := ⟨n1, l, ⟨a, ca, rfl, hi.ext hx⟩, hb⟩
  have hu0 : BigV w1 (.agg #[.bool n2, .slice b m.length cb2]) y := ⟨n2, m, ⟨b, cb2, rfl, hj.ext hx⟩, hd⟩
  have HO := Lib.hid (cmp_val hv0 hu0 hz hy)
  have c0 := B1.cell (i := 0) (v := .bool n1) rfl
  have c1 := B1.cell (i := 1) (v := .slice a l.length ca) rfl
  have c2 := B2.cell (i := 0) (v := .bool n2) rfl
  have c3 := B2.cell (i := 1) (v := .slice b m.length cb2) rfl
  have HCB := Lib.hid (hc.ext hx)
  have HW := Lib.hid hw1
  clear B1 B2 hw1 hv0 hu0 hi hj hb hd hc hz hy
  go_enter Tryd.func45, Tryd.ntmps45
  go_upto_region 1 with fail
  rw [HW.out]
  go_wp2_with fail
  refine HO.out.mono ?_
  rintro e w2 ⟨rfl, hy2⟩
  have K := HCB.out.ext hy2
  have cc := K.cell (i := 0) (v := .bool false) rfl
  have ff := K.free 0
  have hfin := (hx.trans hy2).setSame K (i := 0) (v := .bool false) rfl
  have HFIN := Lib.hid hfin
  clear c0 c1 c2 c3 HO K hfin
  go_wp2_with fail
  go_ret
  exact ⟨rfl, HFIN.out⟩
end Go.Proofs.YtpaaanbcadlhiaaDoor
