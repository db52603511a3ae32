import Derived.Test.YtnpeakahiedeoaaGreatDoorPRefB
namespace Go.Proofs.YtnpeakahiedeoaaGreatDoor
open Go.RowKit Go BigFrame Go.Shelf
set_option maxRecDepth 100000
set_option linter.unusedSimpArgs false
set_option linter.unusedVariables false

/-! ref09.Cmp. -/
set_option maxHeartbeats 1000000 in
theorem ref_Cmp_ff (a b : Option Addr) (ca cb : Nat) (l m : List Int) (w : World) (h : Ints w a ca l) (k : Ints w b cb m) (h1 : chkB false l = true) (h2 : chkB false m = true) :
    Calls Tryz.prog 58 #[.agg #[.bool false, .slice a l.length ca], .agg #[.bool false, .slice b m.length cb]] w fun e w' => e = .returned (.tuple #[.int .i64 (cmpI (sgn false (dval l)) (sgn false (dval m))), .int .i64 0]) ∧ Ext w w' := by
  have hs := cmp_sgn (n1 := false) (n2 := false) (dval_nonneg (of_chk h1).1.1.digs) (dval_nonneg (of_chk h2).1.1.digs) (fun e => dval_pos (of_chk h1).1.1 ((of_chk h1).1.2.1 e)) (fun e => dval_pos (of_chk h2).1.1 ((of_chk h2).1.2.1 e))
  obtain ⟨w3, hw3⟩ : ∃ w3, ((w.alloc (.cells #[.bool false, .slice a l.length ca] 24)).alloc (.cells #[.bool false, .slice b m.length cb] 24)) = w3 := ⟨_, rfl⟩
  have B1 := (Blk.new0 w #[.bool false, .slice a l.length ca] 24).alloc (.cells #[.bool false, .slice b m.length cb] 24)
  have B2 := Blk.new1 w (.cells #[.bool false, .slice a l.length ca] 24) #[.bool false, .slice b m.length cb] 24
  have hx : Ext w w3 := by rw [← hw3]; exact (by repeat (first | with_reducible exact Ext.refl _ | with_reducible assumption | with_reducible refine Ext.drewN ?_ _ | with_reducible refine Ext.drew ?_ | with_reducible refine Ext.alloc' ?_ _ | with_reducible refine Ext.set ?_ (by dsimp only; omega) _))
  rw [hw3] at B1 B2
  have c0 := B1.cell (i := 0) (v := .bool false) rfl
  have c1 := B1.cell (i := 1) (v := .slice a l.length ca) rfl
  have c2 := B2.cell (i := 0) (v := .bool false) rfl
  have c3 := B2.cell (i := 1) (v := .slice b m.length cb) rfl
  have H1 := Lib.hid B1
  have H2 := Lib.hid B2
  have HW := Lib.hid hw3
  have HT := ref_two false false a b ca cb l m w3 (h.ext hx) (k.ext hx)
  rw [h1, h2] at HT
  have HT := Lib.hid (show Calls Tryz.prog 86 _ w3 fun e w' => e = .returned (.int .i64 0) ∧ Ext w3 w' from HT)
  have HC := Lib.hid (fun W (hy : Ext w W) => ref_cmp a b ca cb l m W (h.ext hy) (k.ext hy) (of_chk h1).1.1 (of_chk h2).1.1)
  have HS := Lib.hid (hs.2.2.2 rfl rfl)
  clear hs h1 h2 h k B1 B2 hw3
  go_enter Tryz.func58, Tryz.ntmps58
  go_upto_region 1 with fail
  rw [HW.out]
  go_wp2_with fail
  refine HT.out.mono ?_
  rintro e w5 ⟨rfl, hy⟩
  clear c0 c1 c2 c3 HT
  have c0 := (H1.out.ext hy).cell (i := 0) (v := .bool false) rfl
  have c1 := (H1.out.ext hy).cell (i := 1) (v := .slice a l.length ca) rfl
  have c2 := (H2.out.ext hy).cell (i := 0) (v := .bool false) rfl
  have c3 := (H2.out.ext hy).cell (i := 1) (v := .slice b m.length cb) rfl
  have HC5 := Lib.hid (HC.out w5 (hx.trans hy))
  go_wp2_with fail
  refine HC5.out.mono ?_
  rintro e w6 ⟨rfl, hy6⟩
  rw [HS.out]
  go_wp2_with fail
  refine bodyPost_ret (v := .tuple #[.int .i64 _, .int .i64 0]) (by simp [results, Tryz.results58, go_sem]; rfl) rfl ?_
  exact ⟨rfl, (hx.trans hy).trans hy6⟩
set_option maxHeartbeats 1000000 in
theorem ref_Cmp_ft (a b : Option Addr) (ca cb : Nat) (l m : List Int) (w : World) (h : Ints w a ca l) (k : Ints w b cb m) (h1 : chkB false l = true) (h2 : chkB true m = true) :
    Calls Tryz.prog 58 #[.agg #[.bool false, .slice a l.length ca], .agg #[.bool true, .slice b m.length cb]] w fun e w' => e = .returned (.tuple #[.int .i64 (cmpI (sgn false (dval l)) (sgn true (dval m))), .int .i64 0]) ∧ Ext w w' := by
  have hs := cmp_sgn (n1 := false) (n2 := true) (dval_nonneg (of_chk h1).1.1.digs) (dval_nonneg (of_chk h2).1.1.digs) (fun e => dval_pos (of_chk h1).1.1 ((of_chk h1).1.2.1 e)) (fun e => dval_pos (of_chk h2).1.1 ((of_chk h2).1.2.1 e))
  obtain ⟨w3, hw3⟩ : ∃ w3, ((w.alloc (.cells #[.bool false, .slice a l.length ca] 24)).alloc (.cells #[.bool true, .slice b m.length cb] 24)) = w3 := ⟨_, rfl⟩
  have B1 := (Blk.new0 w #[.bool false, .slice a l.length ca] 24).alloc (.cells #[.bool true, .slice b m.length cb] 24)
  have B2 := Blk.new1 w (.cells #[.bool false, .slice a l.length ca] 24) #[.bool true, .slice b m.length cb] 24
  have hx : Ext w w3 := by rw [← hw3]; exact (by repeat (first | with_reducible exact Ext.refl _ | with_reducible assumption | with_reducible refine Ext.drewN ?_ _ | with_reducible refine Ext.drew ?_ | with_reducible refine Ext.alloc' ?_ _ | with_reducible refine Ext.set ?_ (by dsimp only; omega) _))
  rw [hw3] at B1 B2
  have c0 := B1.cell (i := 0) (v := .bool false) rfl
  have c1 := B1.cell (i := 1) (v := .slice a l.length ca) rfl
  have c2 := B2.cell (i := 0) (v := .bool true) rfl
  have c3 := B2.cell (i := 1) (v := .slice b m.length cb) rfl
  have H1 := Lib.hid B1
  have H2 := Lib.hid B2
  have HW := Lib.hid hw3
  have HT := ref_two false true a b ca cb l m w3 (h.ext hx) (k.ext hx)
  rw [h1, h2] at HT
  have HT := Lib.hid (show Calls Tryz.prog 86 _ w3 fun e w' => e = .returned (.int .i64 0) ∧ Ext w3 w' from HT)
  have HS := Lib.hid (hs.2.2.1 rfl rfl)
  clear hs h1 h2 h k B1 B2 hw3
  go_enter Tryz.func58, Tryz.ntmps58
  go_upto_region 1 with fail
  rw [HW.out]
  go_wp2_with fail
  refine HT.out.mono ?_
  rintro e w5 ⟨rfl, hy⟩
  clear c0 c1 c2 c3 HT
  have c0 := (H1.out.ext hy).cell (i := 0) (v := .bool false) rfl
  have c1 := (H1.out.ext hy).cell (i := 1) (v := .slice a l.length ca) rfl
  have c2 := (H2.out.ext hy).cell (i := 0) (v := .bool true) rfl
  have c3 := (H2.out.ext hy).cell (i := 1) (v := .slice b m.length cb) rfl
  go_wp2_with fail
  refine bodyPost_ret (v := .tuple #[.int .i64 (1), .int .i64 0]) (by simp [results, Tryz.results58, go_sem]) rfl ?_
  exact ⟨by rw [HS.out], hx.trans hy⟩
set_option maxHeartbeats 1000000 in
theorem ref_Cmp_tf (a b : Option Addr) (ca cb : Nat) (l m : List Int) (w : World) (h : Ints w a ca l) (k : Ints w b cb m) (h1 : chkB true l = true) (h2 : chkB false m = true) :
    Calls Tryz.prog 58 #[.agg #[.bool true, .slice a l.length ca], .agg #[.bool false, .slice b m.length cb]] w fun e w' => e = .returned (.tuple #[.int .i64 (cmpI (sgn true (dval l)) (sgn false (dval m))), .int .i64 0]) ∧ Ext w w' := by
  have hs := cmp_sgn (n1 := true) (n2 := false) (dval_nonneg (of_chk h1).1.1.digs) (dval_nonneg (of_chk h2).1.1.digs) (fun e => dval_pos (of_chk h1).1.1 ((of_chk h1).1.2.1 e)) (fun e => dval_pos (of_chk h2).1.1 ((of_chk h2).1.2.1 e))
  obtain ⟨w3, hw3⟩ : ∃ w3, ((w.alloc (.cells #[.bool true, .slice a l.length ca] 24)).alloc (.cells #[.bool false, .slice b m.length cb] 24)) = w3 := ⟨_, rfl⟩
  have B1 := (Blk.new0 w #[.bool true, .slice a l.length ca] 24).alloc (.cells #[.bool false, .slice b m.length cb] 24)
  have B2 := Blk.new1 w (.cells #[.bool true, .slice a l.length ca] 24) #[.bool false, .slice b m.length cb] 24
  have hx : Ext w w3 := by rw [← hw3]; exact (by repeat (first | with_reducible exact Ext.refl _ | with_reducible assumption | with_reducible refine Ext.drewN ?_ _ | with_reducible refine Ext.drew ?_ | with_reducible refine Ext.alloc' ?_ _ | with_reducible refine Ext.set ?_ (by dsimp only; omega) _))
  rw [hw3] at B1 B2
  have c0 := B1.cell (i := 0) (v := .bool true) rfl
  have c1 := B1.cell (i := 1) (v := .slice a l.length ca) rfl
  have c2 := B2.cell (i := 0) (v := .bool false) rfl
  have c3 := B2.cell (i := 1) (v := .slice b m.length cb) rfl
  have H1 := Lib.hid B1
  have H2 := Lib.hid B2
  have HW := Lib.hid hw3
  have HT := ref_two true false a b ca cb l m w3 (h.ext hx) (k.ext hx)
  rw [h1, h2] at HT
  have HT := Lib.hid (show Calls Tryz.prog 86 _ w3 fun e w' => e = .returned (.int .i64 0) ∧ Ext w3 w' from HT)
  have HS := Lib.hid (hs.2.1 rfl rfl)
  clear hs h1 h2 h k B1 B2 hw3
  go_enter Tryz.func58, Tryz.ntmps58
  go_upto_region 1 with fail
  rw [HW.out]
  go_wp2_with fail
  refine HT.out.mono ?_
  rintro e w5 ⟨rfl, hy⟩
  clear c0 c1 c2 c3 HT
  have c0 := (H1.out.ext hy).cell (i := 0) (v := .bool true) rfl
  have c1 := (H1.out.ext hy).cell (i := 1) (v := .slice a l.length ca) rfl
  have c2 := (H2.out.ext hy).cell (i := 0) (v := .bool false) rfl
  have c3 := (H2.out.ext hy).cell (i := 1) (v := .slice b m.length cb) rfl
  go_wp2_with fail
  refine bodyPost_ret (v := .tuple #[.int .i64 (-1), .int .i64 0]) (by simp [results, Tryz.results58, go_sem]) rfl ?_
  exact ⟨by rw [HS.out], hx.trans hy⟩
set_option maxHeartbeats 1000000 in
theorem ref_Cmp_tt (a b : Option Addr) (ca cb : Nat) (l m : List Int) (w : World) (h : Ints w a ca l) (k : Ints w b cb m) (h1 : chkB true l = true) (h2 : chkB true m = true) :
    Calls Tryz.prog 58 #[.agg #[.bool true, .slice a l.length ca], .agg #[.bool true, .slice b m.length cb]] w fun e w' => e = .returned (.tuple #[.int .i64 (cmpI (sgn true (dval l)) (sgn true (dval m))), .int .i64 0]) ∧ Ext w w' := by
  have hs := cmp_sgn (n1 := true) (n2 := true) (dval_nonneg (of_chk h1).1.1.digs) (dval_nonneg (of_chk h2).1.1.digs) (fun e => dval_pos (of_chk h1).1.1 ((of_chk h1).1.2.1 e)) (fun e => dval_pos (of_chk h2).1.1 ((of_chk h2).1.2.1 e))
  obtain ⟨w3, hw3⟩ : ∃ w3, ((w.alloc (.cells #[.bool true, .slice a l.length ca] 24)).alloc (.cells #[.bool true, .slice b m.length cb] 24)) = w3 := ⟨_, rfl⟩
  have B1 := (Blk.new0 w #[.bool true, .slice a l.length ca] 24).alloc (.cells #[.bool true, .slice b m.length cb] 24)
  have B2 := Blk.new1 w (.cells #[.bool true, .slice a l.length ca] 24) #[.bool true, .slice b m.length cb] 24
  have hx : Ext w w3 := by rw [← hw3]; exact (by repeat (first | with_reducible exact Ext.refl _ | with_reducible assumption | with_reducible refine Ext.drewN ?_ _ | with_reducible refine Ext.drew ?_ | with_reducible refine Ext.alloc' ?_ _ | with_reducible refine Ext.set ?_ (by dsimp only; omega) _))
  rw [hw3] at B1 B2
  have c0 := B1.cell (i := 0) (v := .bool true) rfl
  have c1 := B1.cell (i := 1) (v := .slice a l.length ca) rfl
  have c2 := B2.cell (i := 0) (v := .bool true) rfl
  have c3 := B2.cell (i := 1) (v := .slice b m.length cb) rfl
  have H1 := Lib.hid B1
  have H2 := Lib.hid B2
  have HW := Lib.hid hw3
  have HT := ref_two true true a b ca cb l m w3 (h.ext hx) (k.ext hx)
  rw [h1, h2] at HT
  have HT := Lib.hid (show Calls Tryz.prog 86 _ w3 fun e w' => e = .returned (.int .i64 0) ∧ Ext w3 w' from HT)
  have HC := Lib.hid (fun W (hy : Ext w W) => ref_cmp b a cb ca m l W (k.ext hy) (h.ext hy) (of_chk h2).1.1 (of_chk h1).1.1)
  have HS := Lib.hid (hs.1 rfl rfl)
  clear hs h1 h2 h k B1 B2 hw3
  go_enter Tryz.func58, Tryz.ntmps58
  go_upto_region 1 with fail
  rw [HW.out]
  go_wp2_with fail
  refine HT.out.mono ?_
  rintro e w5 ⟨rfl, hy⟩
  clear c0 c1 c2 c3 HT
  have c0 := (H1.out.ext hy).cell (i := 0) (v := .bool true) rfl
  have c1 := (H1.out.ext hy).cell (i := 1) (v := .slice a l.length ca) rfl
  have c2 := (H2.out.ext hy).cell (i := 0) (v := .bool true) rfl
  have c3 := (H2.out.ext hy).cell (i := 1) (v := .slice b m.length cb) rfl
  have HC5 := Lib.hid (HC.out w5 (hx.trans hy))
  go_wp2_with fail
  refine HC5.out.mono ?_
  rintro e w6 ⟨rfl, hy6⟩
  rw [HS.out]
  go_wp2_with fail
  refine bodyPost_ret (v := .tuple #[.int .i64 _, .int .i64 0]) (by simp [results, Tryz.results58, go_sem]; rfl) rfl ?_
  exact ⟨rfl, (hx.trans hy).trans hy6⟩
theorem ref_Cmp_ok (n1 n2 : Bool) (a b : Option Addr) (ca cb : Nat) (l m : List Int) (w : World) (h : Ints w a ca l) (k : Ints w b cb m) (h1 : chkB n1 l = true) (h2 : chkB n2 m = true) :
    Calls Tryz.prog 58 #[.agg #[.bool n1, .slice a l.length ca], .agg #[.bool n2, .slice b m.length cb]] w fun e w' => e = .returned (.tuple #[.int .i64 (cmpI (sgn n1 (dval l)) (sgn n2 (dval m))), .int .i64 0]) ∧ Ext w w' := by
  cases n1 <;> cases n2
  · exact ref_Cmp_ff a b ca cb l m w h k h1 h2
  · exact ref_Cmp_ft a b ca cb l m w h k h1 h2
  · exact ref_Cmp_tf a b ca cb l m w h k h1 h2
  · exact ref_Cmp_tt a b ca cb l m w h k h1 h2
end Go.Proofs.YtnpeakahiedeoaaGreatDoor
