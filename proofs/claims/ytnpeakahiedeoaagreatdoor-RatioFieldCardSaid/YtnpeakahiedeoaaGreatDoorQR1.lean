import Derived.Test.YtnpeakahiedeoaaGreatDoorQ3
import Derived.Test.YtnpeakahiedeoaaGreatDoorPRefG
import Derived.Test.YtnpeakahiedeoaaGreatDoorPRefV
import Derived.Test.YtnpeakahiedeoaaGreatDoorPRef9
import Derived.Test.YtnpeakahiedeoaaGreatDoorPRefB
import Derived.Test.YtnpeakahiedeoaaGreatDoorNMake2
import Derived.Test.YtnpeakahiedeoaaGreatDoorHeldIn
namespace Go.Proofs.YtnpeakahiedeoaaGreatDoor
open Go.RowKit Go BigFrame
set_option maxRecDepth 100000
set_option linter.unusedSimpArgs false
set_option linter.unusedVariables false

/-! ref10.zero, Check, valid, Of, Make. -/
theorem rcmp_val {v u : Value} {z y : Int} {w : World} (hv : BigV w v z) (hu : BigV w u y) (hz : Len z) (hy : Len y) : Calls Tryz.prog 58 #[v, u] w (CmpP z y w) := by
  obtain ⟨n1, l, ⟨a, ca, rfl, hi⟩, hb⟩ := hv
  obtain ⟨n2, m, ⟨b, cb, rfl, hj⟩, hc⟩ := hu
  have := ref_Cmp_ok n1 n2 a b ca cb l m w hi hj (hb.chk hz) (hc.chk hy)
  rw [← hb.sgn, ← hc.sgn] at this
  exact this
theorem refR_zero_yes (n : Bool) (a : Option Addr) (q c : Nat) (w : World) (hq : q = 0) : Calls Tryz.prog 54 #[.agg #[.bool n, .slice a q c]] w fun e w' => e = .returned (.bool true) ∧ Ext w w' := by
  subst hq
  obtain ⟨x1, hw, hx, Kx⟩ := boxQ1 w #[.bool n, .slice a 0 c] 24
  replace hw := Lib.hid hw
  go_enter Tryz.func54, Tryz.ntmps54
  go_upto_region 1 with fail
  try simp only [Nat.add_assoc, Nat.reduceAdd, Nat.add_zero]
  rw [hw.out]
  clear hw
  have hs0 := hx.size
  obtain ⟨cx0, cx1⟩ := bk2 Kx
  go_wp2_with fail
  go_ret
  exact ⟨rfl, hx⟩
theorem refR_zero_no (n : Bool) (a : Option Addr) (q c : Nat) (w : World) (hq : 0 < q ∧ q ≤ 9223372036854775807) : Calls Tryz.prog 54 #[.agg #[.bool n, .slice a q c]] w fun e w' => e = .returned (.bool false) ∧ Ext w w' := by
  obtain ⟨hq, hm⟩ := hq
  have t1 : ((q : Int) == 0) = false := by simp only [beq_eq_false_iff_ne]; omega
  have t2 : (q == 0) = false := by simp only [beq_eq_false_iff_ne]; omega
  have t3 : decide (q = 0) = false := decide_eq_false (by omega)
  obtain ⟨x1, hw, hx, Kx⟩ := boxQ1 w #[.bool n, .slice a q c] 24
  replace hw := Lib.hid hw
  go_enter Tryz.func54, Tryz.ntmps54
  go_upto_region 1 with fail
  try simp only [Nat.add_assoc, Nat.reduceAdd, Nat.add_zero]
  rw [hw.out]
  clear hw
  have hs0 := hx.size
  obtain ⟨cx0, cx1⟩ := bk2 Kx
  go_wp2_with fail
  go_ret
  exact ⟨rfl, hx⟩
set_option maxHeartbeats 1000000 in
theorem refR_Check_b1 (n1 n2 : Bool) (a b : Option Addr) (ca cb : Nat) (l m : List Int) (w : World) (h : Ints w a ca l) (k : Ints w b cb m) (h1 : chkB n1 l = false) : Calls Tryz.prog 19 #[.agg #[.bool n1, .slice a l.length ca, .bool n2, .slice b m.length cb]] w fun e w' => e = .returned (.int .i64 100) ∧ Ext w w' := by
  have H1 := Lib.hid (fun W (hy : Ext w W) => ref_Check n1 a ca l W (h.ext hy))
  have H2 := Lib.hid (fun W (hy : Ext w W) => ref_Check n2 b cb m W (k.ext hy))
  have HM := Lib.hid (Nat.le_trans k.le k.mx)
  rw [h1] at H1
  clear h k h1
  obtain ⟨x1, hw, hx, Kx⟩ := boxQ1 w #[.bool n1, .slice a l.length ca, .bool n2, .slice b m.length cb] 26
  replace hw := Lib.hid hw
  go_enter Tryz.func19, Tryz.ntmps19
  go_upto_region 1 with fail
  try simp only [Nat.add_assoc, Nat.reduceAdd, Nat.add_zero]
  rw [hw.out]
  clear hw
  have hs0 := hx.size
  obtain ⟨cx0, cx1, cx2, cx3⟩ := bk4 Kx
  go_wp2_with fail
  with_reducible refine (show Calls Tryz.prog 53 _ _ (fun e w' => e = .returned (.int .i64 90) ∧ Ext x1 w') from H1.out _ hx).mono ?_
  clear cx0 cx1 cx2 cx3
  rintro e x2 ⟨rfl, hy⟩
  replace hx := hx.trans hy
  replace Kx := kE Kx hy
  clear hy
  go_wp2_with fail
  go_ret
  exact ⟨rfl, hx⟩
set_option maxHeartbeats 1000000 in
theorem refR_Check_b2 (n1 n2 : Bool) (a b : Option Addr) (ca cb : Nat) (l m : List Int) (w : World) (h : Ints w a ca l) (k : Ints w b cb m) (h1 : chkB n1 l = true) (h2 : chkB n2 m = false) : Calls Tryz.prog 19 #[.agg #[.bool n1, .slice a l.length ca, .bool n2, .slice b m.length cb]] w fun e w' => e = .returned (.int .i64 100) ∧ Ext w w' := by
  have H1 := Lib.hid (fun W (hy : Ext w W) => ref_Check n1 a ca l W (h.ext hy))
  have H2 := Lib.hid (fun W (hy : Ext w W) => ref_Check n2 b cb m W (k.ext hy))
  have HM := Lib.hid (Nat.le_trans k.le k.mx)
  rw [h1] at H1
  rw [h2] at H2
  clear h k h1 h2
  obtain ⟨x1, hw, hx, Kx⟩ := boxQ1 w #[.bool n1, .slice a l.length ca, .bool n2, .slice b m.length cb] 26
  replace hw := Lib.hid hw
  go_enter Tryz.func19, Tryz.ntmps19
  go_upto_region 1 with fail
  try simp only [Nat.add_assoc, Nat.reduceAdd, Nat.add_zero]
  rw [hw.out]
  clear hw
  have hs0 := hx.size
  obtain ⟨cx0, cx1, cx2, cx3⟩ := bk4 Kx
  go_wp2_with fail
  with_reducible refine (show Calls Tryz.prog 53 _ _ (fun e w' => e = .returned (.int .i64 0) ∧ Ext x1 w') from H1.out _ hx).mono ?_
  clear cx0 cx1 cx2 cx3
  rintro e x2 ⟨rfl, hy⟩
  replace hx := hx.trans hy
  replace Kx := kE Kx hy
  clear hy
  obtain ⟨cx0, cx1, cx2, cx3⟩ := bk4 Kx
  go_wp2_with fail
  with_reducible refine (show Calls Tryz.prog 53 _ _ (fun e w' => e = .returned (.int .i64 90) ∧ Ext x2 w') from H2.out _ hx).mono ?_
  clear cx0 cx1 cx2 cx3
  rintro e x3 ⟨rfl, hy⟩
  replace hx := hx.trans hy
  replace Kx := kE Kx hy
  clear hy
  go_wp2_with fail
  go_ret
  exact ⟨rfl, hx⟩
set_option maxHeartbeats 1000000 in
theorem refR_Check_b3 (n1 n2 : Bool) (a b : Option Addr) (ca cb : Nat) (l m : List Int) (w : World) (h : Ints w a ca l) (k : Ints w b cb m) (h1 : chkB n1 l = true) (h2 : chkB n2 m = true) (h3 : m.length = 0) : Calls Tryz.prog 19 #[.agg #[.bool n1, .slice a l.length ca, .bool n2, .slice b m.length cb]] w fun e w' => e = .returned (.int .i64 100) ∧ Ext w w' := by
  have H1 := Lib.hid (fun W (hy : Ext w W) => ref_Check n1 a ca l W (h.ext hy))
  have H2 := Lib.hid (fun W (hy : Ext w W) => ref_Check n2 b cb m W (k.ext hy))
  have HM := Lib.hid (Nat.le_trans k.le k.mx)
  rw [h1] at H1
  rw [h2] at H2
  have H3 := Lib.hid h3
  clear h k h1 h2 h3
  obtain ⟨x1, hw, hx, Kx⟩ := boxQ1 w #[.bool n1, .slice a l.length ca, .bool n2, .slice b m.length cb] 26
  replace hw := Lib.hid hw
  go_enter Tryz.func19, Tryz.ntmps19
  go_upto_region 1 with fail
  try simp only [Nat.add_assoc, Nat.reduceAdd, Nat.add_zero]
  rw [hw.out]
  clear hw
  have hs0 := hx.size
  obtain ⟨cx0, cx1, cx2, cx3⟩ := bk4 Kx
  go_wp2_with fail
  with_reducible refine (show Calls Tryz.prog 53 _ _ (fun e w' => e = .returned (.int .i64 0) ∧ Ext x1 w') from H1.out _ hx).mono ?_
  clear cx0 cx1 cx2 cx3
  rintro e x2 ⟨rfl, hy⟩
  replace hx := hx.trans hy
  replace Kx := kE Kx hy
  clear hy
  obtain ⟨cx0, cx1, cx2, cx3⟩ := bk4 Kx
  go_wp2_with fail
  with_reducible refine (show Calls Tryz.prog 53 _ _ (fun e w' => e = .returned (.int .i64 0) ∧ Ext x2 w') from H2.out _ hx).mono ?_
  clear cx0 cx1 cx2 cx3
  rintro e x3 ⟨rfl, hy⟩
  replace hx := hx.trans hy
  replace Kx := kE Kx hy
  clear hy
  obtain ⟨cx0, cx1, cx2, cx3⟩ := bk4 Kx
  go_wp2_with fail
  with_reducible refine (refR_zero_yes _ _ _ _ _ H3.out).mono ?_
  clear cx0 cx1 cx2 cx3
  rintro e x4 ⟨rfl, hy⟩
  replace hx := hx.trans hy
  replace Kx := kE Kx hy
  clear hy
  go_wp2_with fail
  go_ret
  exact ⟨rfl, hx⟩
set_option maxHeartbeats 1000000 in
theorem refR_Check_b4 (n1 n2 : Bool) (a b : Option Addr) (ca cb : Nat) (l m : List Int) (w : World) (h : Ints w a ca l) (k : Ints w b cb m) (h1 : chkB n1 l = true) (h2 : chkB n2 m = true) (h3 : 0 < m.length) (h4 : n2 = true) : Calls Tryz.prog 19 #[.agg #[.bool n1, .slice a l.length ca, .bool n2, .slice b m.length cb]] w fun e w' => e = .returned (.int .i64 100) ∧ Ext w w' := by
  have H1 := Lib.hid (fun W (hy : Ext w W) => ref_Check n1 a ca l W (h.ext hy))
  have H2 := Lib.hid (fun W (hy : Ext w W) => ref_Check n2 b cb m W (k.ext hy))
  have HM := Lib.hid (Nat.le_trans k.le k.mx)
  rw [h1] at H1
  rw [h2] at H2
  have H3 := Lib.hid h3
  subst h4
  clear h k h1 h2 h3
  obtain ⟨x1, hw, hx, Kx⟩ := boxQ1 w #[.bool n1, .slice a l.length ca, .bool true, .slice b m.length cb] 26
  replace hw := Lib.hid hw
  go_enter Tryz.func19, Tryz.ntmps19
  go_upto_region 1 with fail
  try simp only [Nat.add_assoc, Nat.reduceAdd, Nat.add_zero]
  rw [hw.out]
  clear hw
  have hs0 := hx.size
  obtain ⟨cx0, cx1, cx2, cx3⟩ := bk4 Kx
  go_wp2_with fail
  with_reducible refine (show Calls Tryz.prog 53 _ _ (fun e w' => e = .returned (.int .i64 0) ∧ Ext x1 w') from H1.out _ hx).mono ?_
  clear cx0 cx1 cx2 cx3
  rintro e x2 ⟨rfl, hy⟩
  replace hx := hx.trans hy
  replace Kx := kE Kx hy
  clear hy
  obtain ⟨cx0, cx1, cx2, cx3⟩ := bk4 Kx
  go_wp2_with fail
  with_reducible refine (show Calls Tryz.prog 53 _ _ (fun e w' => e = .returned (.int .i64 0) ∧ Ext x2 w') from H2.out _ hx).mono ?_
  clear cx0 cx1 cx2 cx3
  rintro e x3 ⟨rfl, hy⟩
  replace hx := hx.trans hy
  replace Kx := kE Kx hy
  clear hy
  obtain ⟨cx0, cx1, cx2, cx3⟩ := bk4 Kx
  go_wp2_with fail
  with_reducible refine (refR_zero_no _ _ _ _ _ ⟨H3.out, HM.out⟩).mono ?_
  clear cx0 cx1 cx2 cx3
  rintro e x4 ⟨rfl, hy⟩
  replace hx := hx.trans hy
  replace Kx := kE Kx hy
  clear hy
  obtain ⟨cx0, cx1, cx2, cx3⟩ := bk4 Kx
  go_wp2_with fail
  go_ret
  exact ⟨rfl, hx⟩
set_option maxHeartbeats 1000000 in
theorem refR_Check_gone (n1 n2 : Bool) (a b : Option Addr) (ca cb : Nat) (l m : List Int) (w : World) (h : Ints w a ca l) (k : Ints w b cb m) (h1 : chkB n1 l = true) (h2 : chkB n2 m = true) (h3 : 0 < m.length) (h4 : n2 = false) (hg : Int.gcd (sgn n1 (dval l)) (sgn n2 (dval m)) = 1) : Calls Tryz.prog 19 #[.agg #[.bool n1, .slice a l.length ca, .bool n2, .slice b m.length cb]] w fun e w' => e = .returned (.int .i64 0) ∧ Ext w w' := by
  have H1 := Lib.hid (fun W (hy : Ext w W) => ref_Check n1 a ca l W (h.ext hy))
  have H2 := Lib.hid (fun W (hy : Ext w W) => ref_Check n2 b cb m W (k.ext hy))
  have HM := Lib.hid (Nat.le_trans k.le k.mx)
  have hG := fun W (hy : Ext w W) => rGcd_val (w := W) (v := .agg #[.bool n1, .slice a l.length ca]) (u := .agg #[.bool n2, .slice b m.length cb]) ⟨n1, l, ⟨a, ca, rfl, h.ext hy⟩, (of_chk h1).1⟩ ⟨n2, m, ⟨b, cb, rfl, k.ext hy⟩, (of_chk h2).1⟩ (by have := (of_chk h1).2; rw [(of_chk h1).1.digs] at this; exact this) (by have := (of_chk h2).2; rw [(of_chk h2).1.digs] at this; exact this)
  have hL : Len ((Int.gcd (sgn n1 (dval l)) (sgn n2 (dval m)) : Nat) : Int) := len_gcd (by have := (of_chk h1).2; rw [(of_chk h1).1.digs] at this; exact this) (by have := (of_chk h2).2; rw [(of_chk h2).1.digs] at this; exact this)
  have hp : 0 < Int.gcd (sgn n1 (dval l)) (sgn n2 (dval m)) := Int.gcd_pos_of_ne_zero_right _ (by
    have h0 := dval_pos (of_chk h2).1.1 (List.ne_nil_of_length_pos h3)
    unfold sgn; split <;> omega)
  have hC : cmpI ((Int.gcd (sgn n1 (dval l)) (sgn n2 (dval m)) : Nat) : Int) 1 = 0 := by unfold cmpI; split <;> (try split) <;> omega
  generalize Int.gcd (sgn n1 (dval l)) (sgn n2 (dval m)) = gg at *
  have HG := Lib.hid hG
  have HL := Lib.hid hL
  have HC := Lib.hid hC
  clear hG hL hp hC hg
  rw [h1] at H1
  rw [h2] at H2
  have H3 := Lib.hid h3
  subst h4
  clear h k h1 h2 h3
  obtain ⟨x1, hw, hx, Kx⟩ := boxQ1 w #[.bool n1, .slice a l.length ca, .bool false, .slice b m.length cb] 26
  replace hw := Lib.hid hw
  go_enter Tryz.func19, Tryz.ntmps19
  go_upto_region 1 with fail
  try simp only [Nat.add_assoc, Nat.reduceAdd, Nat.add_zero]
  rw [hw.out]
  clear hw
  have hs0 := hx.size
  obtain ⟨cx0, cx1, cx2, cx3⟩ := bk4 Kx
  go_wp2_with fail
  with_reducible refine (show Calls Tryz.prog 53 _ _ (fun e w' => e = .returned (.int .i64 0) ∧ Ext x1 w') from H1.out _ hx).mono ?_
  clear cx0 cx1 cx2 cx3
  rintro e x2 ⟨rfl, hy⟩
  replace hx := hx.trans hy
  replace Kx := kE Kx hy
  clear hy
  obtain ⟨cx0, cx1, cx2, cx3⟩ := bk4 Kx
  go_wp2_with fail
  with_reducible refine (show Calls Tryz.prog 53 _ _ (fun e w' => e = .returned (.int .i64 0) ∧ Ext x2 w') from H2.out _ hx).mono ?_
  clear cx0 cx1 cx2 cx3
  rintro e x3 ⟨rfl, hy⟩
  replace hx := hx.trans hy
  replace Kx := kE Kx hy
  clear hy
  obtain ⟨cx0, cx1, cx2, cx3⟩ := bk4 Kx
  go_wp2_with fail
  with_reducible refine (refR_zero_no _ _ _ _ _ ⟨H3.out, HM.out⟩).mono ?_
  clear cx0 cx1 cx2 cx3
  rintro e x4 ⟨rfl, hy⟩
  replace hx := hx.trans hy
  replace Kx := kE Kx hy
  clear hy
  obtain ⟨cx0, cx1, cx2, cx3⟩ := bk4 Kx
  go_wp2_with fail
  with_reducible refine (HG.out _ hx).mono ?_
  clear cx0 cx1 cx2 cx3
  rintro e x5 ⟨v, rfl, hv, hy⟩
  replace hx := hx.trans hy
  replace Kx := kE Kx hy
  clear hy
  obtain ⟨ng, ag, qg, cg, rfl⟩ := hv.form
  have Vg := Lib.hid hv
  clear hv
  go_upto_region 4 with fail
  have hl := Ext.alloc x5 (.cells #[.bool ng, .slice ag qg cg] 24)
  have lxg : w.heap.size < x5.heap.size := Kx.out.lt
  have hpg : w.heap.size ≤ x5.heap.size := hx.size
  replace hx := hx.trans hl
  replace Kx := kE Kx hl
  replace Vg := Lib.hid (Vg.out.ext hl)
  have Kg := Lib.hid (Blk.new0 x5 #[.bool ng, .slice ag qg cg] 24)
  clear hl
  generalize x5.alloc (.cells #[.bool ng, .slice ag qg cg] 24) = x6 at *
  generalize x5.heap.size = pg at *
  clear Kx
  have s0 : World.cell? x6 ⟨pg, 0, none⟩ = some (.bool ng) := Kg.out.cell (i := 0) rfl
  have s1 : World.cell? x6 ⟨pg, 1, none⟩ = some (.slice ag qg cg) := Kg.out.cell (i := 1) rfl
  have hE : Ext x6 (World.drew x6) := (Ext.refl _).drew
  have hyd : Ext x6 (World.drew x6) := (Ext.refl _).drew
  replace hx := hx.trans hyd
  replace Kg := kE Kg hyd
  replace Vg := Lib.hid (Vg.out.ext hyd)
  clear hyd
  replace s0 : World.cell? (World.drew x6) ⟨pg, 0, none⟩ = some (.bool ng) := s0
  replace s1 : World.cell? (World.drew x6) ⟨pg, 1, none⟩ = some (.slice ag qg cg) := s1
  refine wp_region_held_drew (S := (fun w' => World.cell? w' ⟨pg, 0, none⟩ = some (.bool ng) ∧ World.cell? w' ⟨pg, 1, none⟩ = some (.slice ag qg cg))) (by kernel_rfl) ?_ (fun hHeld => ?_)
  · exact ⟨s0, s1⟩
  (try simp only [← List.toArray_replicate, List.size_toArray, List.length_cons, List.length_nil, Nat.reduceAdd, List.replicate_succ, List.replicate_zero])
  generalize World.drew x6 = x7 at *
  refine wpAnyH_take (i := 0) (oi := _) (v := ?_) rfl (by kernel_rfl) (by kernel_rfl) (by kernel_rfl) (fun _ _ _ h => h) (Or.inl ⟨by rfl, ?_⟩) (by assumption) ?_
  rotate_left
  · (intro w hSw; (try dsimp only at hSw); (try go_simp); (try with_reducible rfl))
  (try simp only [Act.put, List.getElem_toArray, List.getElem_cons_succ, List.getElem_cons_zero, List.setIfInBounds_toArray, List.set_cons_zero, List.set_cons_succ])
  refine wpAnyH_ready (rs := [1]) (by kernel_rfl) (by simp) ?_
  refine AllReadyH.cons (o := _) rfl (fun K hK => ?_) ?_
  · go_simp
    (with_reducible refine (ref_Make 1 _ (by omega)).mono ?_); rintro e x8 ⟨v, rfl, hv, hy⟩; replace hE := hE.trans hy; replace hx := hx.trans hy; replace s0 := cell_exQ hy s0; replace s1 := cell_exQ hy s1; replace Kg := kE Kg hy; replace Vg := Lib.hid (Vg.out.ext hy); clear hy; obtain ⟨ni, ai, qi, ci, rfl, hv, -⟩ := hv.two; have Vi := Lib.hid hv; clear hv
    refine hK.out _ _ ?_ (fun hHeld2 => ?_)
    · exact ⟨s0, s1⟩
    clear hK K hHeld
    have hHeld := hHeld2
    clear hHeld2
    (try simp only [Act.put, List.getElem_toArray, List.getElem_cons_succ, List.getElem_cons_zero, List.setIfInBounds_toArray, List.set_cons_zero, List.set_cons_succ])
    refine wpAnyH_ready (rs := [2]) (by kernel_rfl) (by simp) ?_
    refine AllReadyH.cons (o := _) rfl (fun K hK => ?_) ?_
    · go_simp
      (with_reducible refine (rcmp_val Vg.out Vi.out HL.out (len_small (by decide))).mono ?_); rintro e x9 ⟨rfl, hy⟩; replace hE := hE.trans hy; replace hx := hx.trans hy; replace s0 := cell_exQ hy s0; replace s1 := cell_exQ hy s1; replace Kg := kE Kg hy; replace Vg := Lib.hid (Vg.out.ext hy); replace Vi := Lib.hid (Vi.out.ext hy); clear hy; rw [HC.out]
      refine hK.out _ _ ?_ (fun hHeld2 => ?_)
      · exact ⟨s0, s1⟩
      clear hK K hHeld
      have hHeld := hHeld2
      clear hHeld2
      (try simp only [Act.put, List.getElem_toArray, List.getElem_cons_succ, List.getElem_cons_zero, List.setIfInBounds_toArray, List.set_cons_zero, List.set_cons_succ])
      refine wpAnyH_take (i := 3) (oi := _) (v := ?_) rfl (by kernel_rfl) (by kernel_rfl) (by kernel_rfl) (fun _ _ _ h => h) (Or.inl ⟨by rfl, ?_⟩) (by assumption) ?_
      rotate_left
      · (intro w hSw; (try dsimp only at hSw); (try go_simp); (try with_reducible rfl))
      (try simp only [Act.put, List.getElem_toArray, List.getElem_cons_succ, List.getElem_cons_zero, List.setIfInBounds_toArray, List.set_cons_zero, List.set_cons_succ])
      refine wpAnyH_take (i := 4) (oi := _) (v := ?_) rfl (by kernel_rfl) (by kernel_rfl) (by kernel_rfl) (fun _ _ _ h => h) (Or.inl ⟨by rfl, ?_⟩) (by assumption) ?_
      rotate_left
      · (intro w hSw; (try dsimp only at hSw); (try go_simp); (try with_reducible rfl))
      (try simp only [Act.put, List.getElem_toArray, List.getElem_cons_succ, List.getElem_cons_zero, List.setIfInBounds_toArray, List.set_cons_zero, List.set_cons_succ])
      refine wpAnyH_take (i := 5) (oi := _) (v := ?_) rfl (by kernel_rfl) (by kernel_rfl) (by kernel_rfl) (fun _ _ _ h => h) (Or.inl ⟨by rfl, ?_⟩) (by assumption) ?_
      rotate_left
      · (intro w hSw; (try dsimp only at hSw); (try go_simp); (try with_reducible rfl))
      (try simp only [Act.put, List.getElem_toArray, List.getElem_cons_succ, List.getElem_cons_zero, List.setIfInBounds_toArray, List.set_cons_zero, List.set_cons_succ])
      refine wpAnyH_take (i := 6) (oi := _) (v := ?_) rfl (by kernel_rfl) (by kernel_rfl) (by kernel_rfl) (fun _ _ _ h => h) (Or.inl ⟨by rfl, ?_⟩) (by assumption) ?_
      rotate_left
      · (intro w hSw; (try dsimp only at hSw); (try go_simp); (try with_reducible rfl))
      (try simp only [Act.put, List.getElem_toArray, List.getElem_cons_succ, List.getElem_cons_zero, List.setIfInBounds_toArray, List.set_cons_zero, List.set_cons_succ])
      refine wpAnyH_take (i := 7) (oi := _) (v := ?_) rfl (by kernel_rfl) (by kernel_rfl) (by kernel_rfl) (fun _ _ _ h => h) (Or.inl ⟨by rfl, ?_⟩) (by assumption) ?_
      rotate_left
      · (intro w hSw; (try dsimp only at hSw); (try go_simp); (try with_reducible rfl))
      (try simp only [Act.put, List.getElem_toArray, List.getElem_cons_succ, List.getElem_cons_zero, List.setIfInBounds_toArray, List.set_cons_zero, List.set_cons_succ])
      refine wpAnyH_done (by kernel_rfl) ?_ _
      go_wp2_with fail
      go_ret
      exact ⟨rfl, hx⟩
    exact AllReadyH.nil
  exact AllReadyH.nil
set_option maxHeartbeats 1000000 in
theorem refR_Check_gno (n1 n2 : Bool) (a b : Option Addr) (ca cb : Nat) (l m : List Int) (w : World) (h : Ints w a ca l) (k : Ints w b cb m) (h1 : chkB n1 l = true) (h2 : chkB n2 m = true) (h3 : 0 < m.length) (h4 : n2 = false) (hg : Int.gcd (sgn n1 (dval l)) (sgn n2 (dval m)) ≠ 1) : Calls Tryz.prog 19 #[.agg #[.bool n1, .slice a l.length ca, .bool n2, .slice b m.length cb]] w fun e w' => e = .returned (.int .i64 100) ∧ Ext w w' := by
  have H1 := Lib.hid (fun W (hy : Ext w W) => ref_Check n1 a ca l W (h.ext hy))
  have H2 := Lib.hid (fun W (hy : Ext w W) => ref_Check n2 b cb m W (k.ext hy))
  have HM := Lib.hid (Nat.le_trans k.le k.mx)
  have hG := fun W (hy : Ext w W) => rGcd_val (w := W) (v := .agg #[.bool n1, .slice a l.length ca]) (u := .agg #[.bool n2, .slice b m.length cb]) ⟨n1, l, ⟨a, ca, rfl, h.ext hy⟩, (of_chk h1).1⟩ ⟨n2, m, ⟨b, cb, rfl, k.ext hy⟩, (of_chk h2).1⟩ (by have := (of_chk h1).2; rw [(of_chk h1).1.digs] at this; exact this) (by have := (of_chk h2).2; rw [(of_chk h2).1.digs] at this; exact this)
  have hL : Len ((Int.gcd (sgn n1 (dval l)) (sgn n2 (dval m)) : Nat) : Int) := len_gcd (by have := (of_chk h1).2; rw [(of_chk h1).1.digs] at this; exact this) (by have := (of_chk h2).2; rw [(of_chk h2).1.digs] at this; exact this)
  have hp : 0 < Int.gcd (sgn n1 (dval l)) (sgn n2 (dval m)) := Int.gcd_pos_of_ne_zero_right _ (by
    have h0 := dval_pos (of_chk h2).1.1 (List.ne_nil_of_length_pos h3)
    unfold sgn; split <;> omega)
  have hC : cmpI ((Int.gcd (sgn n1 (dval l)) (sgn n2 (dval m)) : Nat) : Int) 1 = 1 := by unfold cmpI; split <;> (try split) <;> omega
  generalize Int.gcd (sgn n1 (dval l)) (sgn n2 (dval m)) = gg at *
  have HG := Lib.hid hG
  have HL := Lib.hid hL
  have HC := Lib.hid hC
  clear hG hL hp hC hg
  rw [h1] at H1
  rw [h2] at H2
  have H3 := Lib.hid h3
  subst h4
  clear h k h1 h2 h3
  obtain ⟨x1, hw, hx, Kx⟩ := boxQ1 w #[.bool n1, .slice a l.length ca, .bool false, .slice b m.length cb] 26
  replace hw := Lib.hid hw
  go_enter Tryz.func19, Tryz.ntmps19
  go_upto_region 1 with fail
  try simp only [Nat.add_assoc, Nat.reduceAdd, Nat.add_zero]
  rw [hw.out]
  clear hw
  have hs0 := hx.size
  obtain ⟨cx0, cx1, cx2, cx3⟩ := bk4 Kx
  go_wp2_with fail
  with_reducible refine (show Calls Tryz.prog 53 _ _ (fun e w' => e = .returned (.int .i64 0) ∧ Ext x1 w') from H1.out _ hx).mono ?_
  clear cx0 cx1 cx2 cx3
  rintro e x2 ⟨rfl, hy⟩
  replace hx := hx.trans hy
  replace Kx := kE Kx hy
  clear hy
  obtain ⟨cx0, cx1, cx2, cx3⟩ := bk4 Kx
  go_wp2_with fail
  with_reducible refine (show Calls Tryz.prog 53 _ _ (fun e w' => e = .returned (.int .i64 0) ∧ Ext x2 w') from H2.out _ hx).mono ?_
  clear cx0 cx1 cx2 cx3
  rintro e x3 ⟨rfl, hy⟩
  replace hx := hx.trans hy
  replace Kx := kE Kx hy
  clear hy
  obtain ⟨cx0, cx1, cx2, cx3⟩ := bk4 Kx
  go_wp2_with fail
  with_reducible refine (refR_zero_no _ _ _ _ _ ⟨H3.out, HM.out⟩).mono ?_
  clear cx0 cx1 cx2 cx3
  rintro e x4 ⟨rfl, hy⟩
  replace hx := hx.trans hy
  replace Kx := kE Kx hy
  clear hy
  obtain ⟨cx0, cx1, cx2, cx3⟩ := bk4 Kx
  go_wp2_with fail
  with_reducible refine (HG.out _ hx).mono ?_
  clear cx0 cx1 cx2 cx3
  rintro e x5 ⟨v, rfl, hv, hy⟩
  replace hx := hx.trans hy
  replace Kx := kE Kx hy
  clear hy
  obtain ⟨ng, ag, qg, cg, rfl⟩ := hv.form
  have Vg := Lib.hid hv
  clear hv
  go_upto_region 4 with fail
  have hl := Ext.alloc x5 (.cells #[.bool ng, .slice ag qg cg] 24)
  have lxg : w.heap.size < x5.heap.size := Kx.out.lt
  have hpg : w.heap.size ≤ x5.heap.size := hx.size
  replace hx := hx.trans hl
  replace Kx := kE Kx hl
  replace Vg := Lib.hid (Vg.out.ext hl)
  have Kg := Lib.hid (Blk.new0 x5 #[.bool ng, .slice ag qg cg] 24)
  clear hl
  generalize x5.alloc (.cells #[.bool ng, .slice ag qg cg] 24) = x6 at *
  generalize x5.heap.size = pg at *
  clear Kx
  have s0 : World.cell? x6 ⟨pg, 0, none⟩ = some (.bool ng) := Kg.out.cell (i := 0) rfl
  have s1 : World.cell? x6 ⟨pg, 1, none⟩ = some (.slice ag qg cg) := Kg.out.cell (i := 1) rfl
  have hE : Ext x6 (World.drew x6) := (Ext.refl _).drew
  have hyd : Ext x6 (World.drew x6) := (Ext.refl _).drew
  replace hx := hx.trans hyd
  replace Kg := kE Kg hyd
  replace Vg := Lib.hid (Vg.out.ext hyd)
  clear hyd
  replace s0 : World.cell? (World.drew x6) ⟨pg, 0, none⟩ = some (.bool ng) := s0
  replace s1 : World.cell? (World.drew x6) ⟨pg, 1, none⟩ = some (.slice ag qg cg) := s1
  refine wp_region_held_drew (S := (fun w' => World.cell? w' ⟨pg, 0, none⟩ = some (.bool ng) ∧ World.cell? w' ⟨pg, 1, none⟩ = some (.slice ag qg cg))) (by kernel_rfl) ?_ (fun hHeld => ?_)
  · exact ⟨s0, s1⟩
  (try simp only [← List.toArray_replicate, List.size_toArray, List.length_cons, List.length_nil, Nat.reduceAdd, List.replicate_succ, List.replicate_zero])
  generalize World.drew x6 = x7 at *
  refine wpAnyH_take (i := 0) (oi := _) (v := ?_) rfl (by kernel_rfl) (by kernel_rfl) (by kernel_rfl) (fun _ _ _ h => h) (Or.inl ⟨by rfl, ?_⟩) (by assumption) ?_
  rotate_left
  · (intro w hSw; (try dsimp only at hSw); (try go_simp); (try with_reducible rfl))
  (try simp only [Act.put, List.getElem_toArray, List.getElem_cons_succ, List.getElem_cons_zero, List.setIfInBounds_toArray, List.set_cons_zero, List.set_cons_succ])
  refine wpAnyH_ready (rs := [1]) (by kernel_rfl) (by simp) ?_
  refine AllReadyH.cons (o := _) rfl (fun K hK => ?_) ?_
  · go_simp
    (with_reducible refine (ref_Make 1 _ (by omega)).mono ?_); rintro e x8 ⟨v, rfl, hv, hy⟩; replace hE := hE.trans hy; replace hx := hx.trans hy; replace s0 := cell_exQ hy s0; replace s1 := cell_exQ hy s1; replace Kg := kE Kg hy; replace Vg := Lib.hid (Vg.out.ext hy); clear hy; obtain ⟨ni, ai, qi, ci, rfl, hv, -⟩ := hv.two; have Vi := Lib.hid hv; clear hv
    refine hK.out _ _ ?_ (fun hHeld2 => ?_)
    · exact ⟨s0, s1⟩
    clear hK K hHeld
    have hHeld := hHeld2
    clear hHeld2
    (try simp only [Act.put, List.getElem_toArray, List.getElem_cons_succ, List.getElem_cons_zero, List.setIfInBounds_toArray, List.set_cons_zero, List.set_cons_succ])
    refine wpAnyH_ready (rs := [2]) (by kernel_rfl) (by simp) ?_
    refine AllReadyH.cons (o := _) rfl (fun K hK => ?_) ?_
    · go_simp
      (with_reducible refine (rcmp_val Vg.out Vi.out HL.out (len_small (by decide))).mono ?_); rintro e x9 ⟨rfl, hy⟩; replace hE := hE.trans hy; replace hx := hx.trans hy; replace s0 := cell_exQ hy s0; replace s1 := cell_exQ hy s1; replace Kg := kE Kg hy; replace Vg := Lib.hid (Vg.out.ext hy); replace Vi := Lib.hid (Vi.out.ext hy); clear hy; rw [HC.out]
      refine hK.out _ _ ?_ (fun hHeld2 => ?_)
      · exact ⟨s0, s1⟩
      clear hK K hHeld
      have hHeld := hHeld2
      clear hHeld2
      (try simp only [Act.put, List.getElem_toArray, List.getElem_cons_succ, List.getElem_cons_zero, List.setIfInBounds_toArray, List.set_cons_zero, List.set_cons_succ])
      refine wpAnyH_take (i := 3) (oi := _) (v := ?_) rfl (by kernel_rfl) (by kernel_rfl) (by kernel_rfl) (fun _ _ _ h => h) (Or.inl ⟨by rfl, ?_⟩) (by assumption) ?_
      rotate_left
      · (intro w hSw; (try dsimp only at hSw); (try go_simp); (try with_reducible rfl))
      (try simp only [Act.put, List.getElem_toArray, List.getElem_cons_succ, List.getElem_cons_zero, List.setIfInBounds_toArray, List.set_cons_zero, List.set_cons_succ])
      refine wpAnyH_take (i := 4) (oi := _) (v := ?_) rfl (by kernel_rfl) (by kernel_rfl) (by kernel_rfl) (fun _ _ _ h => h) (Or.inl ⟨by rfl, ?_⟩) (by assumption) ?_
      rotate_left
      · (intro w hSw; (try dsimp only at hSw); (try go_simp); (try with_reducible rfl))
      (try simp only [Act.put, List.getElem_toArray, List.getElem_cons_succ, List.getElem_cons_zero, List.setIfInBounds_toArray, List.set_cons_zero, List.set_cons_succ])
      refine wpAnyH_take (i := 5) (oi := _) (v := ?_) rfl (by kernel_rfl) (by kernel_rfl) (by kernel_rfl) (fun _ _ _ h => h) (Or.inl ⟨by rfl, ?_⟩) (by assumption) ?_
      rotate_left
      · (intro w hSw; (try dsimp only at hSw); (try go_simp); (try with_reducible rfl))
      (try simp only [Act.put, List.getElem_toArray, List.getElem_cons_succ, List.getElem_cons_zero, List.setIfInBounds_toArray, List.set_cons_zero, List.set_cons_succ])
      refine wpAnyH_take (i := 6) (oi := _) (v := ?_) rfl (by kernel_rfl) (by kernel_rfl) (by kernel_rfl) (fun _ _ _ h => h) (Or.inl ⟨by rfl, ?_⟩) (by assumption) ?_
      rotate_left
      · (intro w hSw; (try dsimp only at hSw); (try go_simp); (try with_reducible rfl))
      (try simp only [Act.put, List.getElem_toArray, List.getElem_cons_succ, List.getElem_cons_zero, List.setIfInBounds_toArray, List.set_cons_zero, List.set_cons_succ])
      refine wpAnyH_take (i := 7) (oi := _) (v := ?_) rfl (by kernel_rfl) (by kernel_rfl) (by kernel_rfl) (fun _ _ _ h => h) (Or.inl ⟨by rfl, ?_⟩) (by assumption) ?_
      rotate_left
      · (intro w hSw; (try dsimp only at hSw); (try go_simp); (try with_reducible rfl))
      (try simp only [Act.put, List.getElem_toArray, List.getElem_cons_succ, List.getElem_cons_zero, List.setIfInBounds_toArray, List.set_cons_zero, List.set_cons_succ])
      refine wpAnyH_done (by kernel_rfl) ?_ _
      go_wp2_with fail
      go_ret
      exact ⟨rfl, hx⟩
    exact AllReadyH.nil
  exact AllReadyH.nil
theorem refR_Check (n1 n2 : Bool) (a b : Option Addr) (ca cb : Nat) (l m : List Int) (w : World) (h : Ints w a ca l) (k : Ints w b cb m) : Calls Tryz.prog 19 #[.agg #[.bool n1, .slice a l.length ca, .bool n2, .slice b m.length cb]] w fun e w' => e = .returned (.int .i64 (errR (okR n1 l n2 m))) ∧ Ext w w' := by
  unfold okR
  cases h1 : chkB n1 l
  · exact refR_Check_b1 n1 n2 a b ca cb l m w h k h1
  · cases h2 : chkB n2 m
    · exact refR_Check_b2 n1 n2 a b ca cb l m w h k h1 h2
    · by_cases h3 : m.length = 0
      · rw [decide_eq_false (show ¬ 0 < m.length by omega), Bool.and_false]
        exact refR_Check_b3 n1 n2 a b ca cb l m w h k h1 h2 h3
      · have h3' : 0 < m.length := by omega
        cases h4 : n2
        · rw [decide_eq_true h3']
          subst h4
          by_cases hg : Int.gcd (sgn n1 (dval l)) (sgn false (dval m)) = 1
          · rw [decide_eq_true hg]; exact refR_Check_gone n1 false a b ca cb l m w h k h1 h2 h3' rfl hg
          · rw [decide_eq_false hg]; exact refR_Check_gno n1 false a b ca cb l m w h k h1 h2 h3' rfl hg
        · subst h4
          exact refR_Check_b4 n1 true a b ca cb l m w h k h1 h2 h3' rfl
end Go.Proofs.YtnpeakahiedeoaaGreatDoor
