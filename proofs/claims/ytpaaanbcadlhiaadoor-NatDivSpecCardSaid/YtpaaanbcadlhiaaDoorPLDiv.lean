import Derived.Test.YtpaaanbcadlhiaaDoorPLaw2
namespace Go.Proofs.YtpaaanbcadlhiaaDoor
open Go.RowKit Go BigFrame
set_option maxRecDepth 100000
set_option linter.unusedSimpArgs false
set_option linter.unusedVariables false

set_option maxHeartbeats 8000000 in
theorem law_Div0 (na nb : Bool) (aa ab : Option Addr) (qa qb ca cb : Nat) (l m : List Int) (n k : Int) (w : World) (ha : Ints w aa ca l) (hb : Ints w ab cb m) (la : l.length = qa) (lb : m.length = qb) (hf : fewN qa = false) :
    Calls Tryd.prog 3 #[.agg #[.bool na, .slice aa qa ca], .agg #[.bool nb, .slice ab qb cb], .int .i64 n, .int .i64 k] w fun e w' => e = .returned (.bool true) ∧ Ext w w' := by
  have FA := Lib.hid (fun W => ref_Few na aa ca l W)
  have FB := Lib.hid (fun W => ref_Few nb ab cb m W)
  rw [la] at FA
  rw [lb] at FB
  rw [hf] at FA
  clear hf la lb ha hb
  have hx : Ext w (((w).alloc (.cells #[.bool na, .slice aa qa ca] 24)).alloc (.cells #[.bool nb, .slice ab qb cb] 24)) := (by repeat (first | with_reducible exact Ext.refl _ | with_reducible assumption | with_reducible refine Ext.drewN ?_ _ | with_reducible refine Ext.drew ?_ | with_reducible refine Ext.alloc' ?_ _ | with_reducible refine Ext.set ?_ (by dsimp only; omega) _))
  have Ka : Blk (((w).alloc (.cells #[.bool na, .slice aa qa ca] 24)).alloc (.cells #[.bool nb, .slice ab qb cb] 24)) (w.heap.size) #[.bool na, .slice aa qa ca] 24 := by have h := (Blk.new0 (w) #[.bool na, .slice aa qa ca] 24).alloc (.cells #[.bool nb, .slice ab qb cb] 24); simpa [Nat.add_assoc] using h
  have Ka := Lib.hid Ka
  have Kb : Blk (((w).alloc (.cells #[.bool na, .slice aa qa ca] 24)).alloc (.cells #[.bool nb, .slice ab qb cb] 24)) (w.heap.size + 1) #[.bool nb, .slice ab qb cb] 24 := by have h := Blk.new0 ((w).alloc (.cells #[.bool na, .slice aa qa ca] 24)) #[.bool nb, .slice ab qb cb] 24; simpa [Nat.add_assoc] using h
  have Kb := Lib.hid Kb
  go_enter Tryd.func3, Tryd.ntmps3
  go_upto_region 1 with fail
  try simp only [Nat.add_assoc, Nat.reduceAdd, Nat.add_zero]
  generalize ((w).alloc (.cells #[.bool na, .slice aa qa ca] 24)).alloc (.cells #[.bool nb, .slice ab qb cb] 24) = x1 at *
  go_wp2_with fail
  with_reducible refine (law09Sane _).mono ?_
  rintro e x2 ⟨rfl, hy⟩
  have hx := hx.trans hy
  have Ka := Lib.hid (Ka.out.ext hy)
  have Kb := Lib.hid (Kb.out.ext hy)
  clear hy
  have ca0 := Ka.out.cell (i := 0) (v := .bool na) rfl
  have ca1 := Ka.out.cell (i := 1) (v := .slice aa qa ca) rfl
  go_wp2_with fail
  with_reducible refine (FA.out _).mono ?_
  rintro e x3 ⟨rfl, hy⟩
  have hx := hx.trans hy
  have Ka := Lib.hid (Ka.out.ext hy)
  have Kb := Lib.hid (Kb.out.ext hy)
  clear hy
  clear ca0 ca1
  go_wp2_with fail
  go_ret
  exact ⟨rfl, hx⟩
set_option maxHeartbeats 8000000 in
theorem law_Div1 (na nb : Bool) (aa ab : Option Addr) (qa qb ca cb : Nat) (l m : List Int) (n k : Int) (w : World) (ha : Ints w aa ca l) (hb : Ints w ab cb m) (la : l.length = qa) (lb : m.length = qb) (hf : fewN qa = true ∧ fewN qb = false) :
    Calls Tryd.prog 3 #[.agg #[.bool na, .slice aa qa ca], .agg #[.bool nb, .slice ab qb cb], .int .i64 n, .int .i64 k] w fun e w' => e = .returned (.bool true) ∧ Ext w w' := by
  have FA := Lib.hid (fun W => ref_Few na aa ca l W)
  have FB := Lib.hid (fun W => ref_Few nb ab cb m W)
  rw [la] at FA
  rw [lb] at FB
  rw [hf.1] at FA
  rw [hf.2] at FB
  clear hf la lb ha hb
  have hx : Ext w (((w).alloc (.cells #[.bool na, .slice aa qa ca] 24)).alloc (.cells #[.bool nb, .slice ab qb cb] 24)) := (by repeat (first | with_reducible exact Ext.refl _ | with_reducible assumption | with_reducible refine Ext.drewN ?_ _ | with_reducible refine Ext.drew ?_ | with_reducible refine Ext.alloc' ?_ _ | with_reducible refine Ext.set ?_ (by dsimp only; omega) _))
  have Ka : Blk (((w).alloc (.cells #[.bool na, .slice aa qa ca] 24)).alloc (.cells #[.bool nb, .slice ab qb cb] 24)) (w.heap.size) #[.bool na, .slice aa qa ca] 24 := by have h := (Blk.new0 (w) #[.bool na, .slice aa qa ca] 24).alloc (.cells #[.bool nb, .slice ab qb cb] 24); simpa [Nat.add_assoc] using h
  have Ka := Lib.hid Ka
  have Kb : Blk (((w).alloc (.cells #[.bool na, .slice aa qa ca] 24)).alloc (.cells #[.bool nb, .slice ab qb cb] 24)) (w.heap.size + 1) #[.bool nb, .slice ab qb cb] 24 := by have h := Blk.new0 ((w).alloc (.cells #[.bool na, .slice aa qa ca] 24)) #[.bool nb, .slice ab qb cb] 24; simpa [Nat.add_assoc] using h
  have Kb := Lib.hid Kb
  go_enter Tryd.func3, Tryd.ntmps3
  go_upto_region 1 with fail
  try simp only [Nat.add_assoc, Nat.reduceAdd, Nat.add_zero]
  generalize ((w).alloc (.cells #[.bool na, .slice aa qa ca] 24)).alloc (.cells #[.bool nb, .slice ab qb cb] 24) = x4 at *
  go_wp2_with fail
  with_reducible refine (law09Sane _).mono ?_
  rintro e x5 ⟨rfl, hy⟩
  have hx := hx.trans hy
  have Ka := Lib.hid (Ka.out.ext hy)
  have Kb := Lib.hid (Kb.out.ext hy)
  clear hy
  have ca0 := Ka.out.cell (i := 0) (v := .bool na) rfl
  have ca1 := Ka.out.cell (i := 1) (v := .slice aa qa ca) rfl
  go_wp2_with fail
  with_reducible refine (FA.out _).mono ?_
  rintro e x6 ⟨rfl, hy⟩
  have hx := hx.trans hy
  have Ka := Lib.hid (Ka.out.ext hy)
  have Kb := Lib.hid (Kb.out.ext hy)
  clear hy
  clear ca0 ca1
  have cb0 := Kb.out.cell (i := 0) (v := .bool nb) rfl
  have cb1 := Kb.out.cell (i := 1) (v := .slice ab qb cb) rfl
  go_wp2_with fail
  with_reducible refine (FB.out _).mono ?_
  rintro e x7 ⟨rfl, hy⟩
  have hx := hx.trans hy
  have Ka := Lib.hid (Ka.out.ext hy)
  have Kb := Lib.hid (Kb.out.ext hy)
  clear hy
  go_wp2_with fail
  go_ret
  exact ⟨rfl, hx⟩
set_option maxHeartbeats 8000000 in
theorem law_Div2 (na nb : Bool) (aa ab : Option Addr) (qa qb ca cb : Nat) (l m : List Int) (n k : Int) (w : World) (ha : Ints w aa ca l) (hb : Ints w ab cb m) (la : l.length = qa) (lb : m.length = qb) (hf : fewN qa = true ∧ fewN qb = true ∧ (100 < n ∧ n ≤ 4096)) :
    Calls Tryd.prog 3 #[.agg #[.bool na, .slice aa qa ca], .agg #[.bool nb, .slice ab qb cb], .int .i64 n, .int .i64 k] w fun e w' => e = .returned (.bool true) ∧ Ext w w' := by
  have FA := Lib.hid (fun W => ref_Few na aa ca l W)
  have FB := Lib.hid (fun W => ref_Few nb ab cb m W)
  rw [la] at FA
  rw [lb] at FB
  obtain ⟨zD, yD, ED, hD⟩ := both_Div (n1 := na) (n2 := nb) ha hb
  rw [la, lb] at hD
  have HD := Lib.hid hD
  clear hD
  obtain ⟨zG, EG, hG⟩ := both_Gcd (n1 := na) (n2 := nb) ha hb
  rw [la, lb] at hG
  have HG := Lib.hid hG
  clear hG
  obtain ⟨zC, EC, hC⟩ := both_Choose n k w
  have HC := Lib.hid hC
  clear hC
  rw [hf.1] at FA
  rw [hf.2.1] at FB
  have u1 : decide (100 < n) = true := by have := hf.2.2; simp only [decide_eq_true_eq]; omega
  have u2 : decide (n ≤ 4096) = true := by have := hf.2.2; simp only [decide_eq_true_eq]; omega
  clear hf la lb ha hb
  have hx : Ext w (((w).alloc (.cells #[.bool na, .slice aa qa ca] 24)).alloc (.cells #[.bool nb, .slice ab qb cb] 24)) := (by repeat (first | with_reducible exact Ext.refl _ | with_reducible assumption | with_reducible refine Ext.drewN ?_ _ | with_reducible refine Ext.drew ?_ | with_reducible refine Ext.alloc' ?_ _ | with_reducible refine Ext.set ?_ (by dsimp only; omega) _))
  have Ka : Blk (((w).alloc (.cells #[.bool na, .slice aa qa ca] 24)).alloc (.cells #[.bool nb, .slice ab qb cb] 24)) (w.heap.size) #[.bool na, .slice aa qa ca] 24 := by have h := (Blk.new0 (w) #[.bool na, .slice aa qa ca] 24).alloc (.cells #[.bool nb, .slice ab qb cb] 24); simpa [Nat.add_assoc] using h
  have Ka := Lib.hid Ka
  have Kb : Blk (((w).alloc (.cells #[.bool na, .slice aa qa ca] 24)).alloc (.cells #[.bool nb, .slice ab qb cb] 24)) (w.heap.size + 1) #[.bool nb, .slice ab qb cb] 24 := by have h := Blk.new0 ((w).alloc (.cells #[.bool na, .slice aa qa ca] 24)) #[.bool nb, .slice ab qb cb] 24; simpa [Nat.add_assoc] using h
  have Kb := Lib.hid Kb
  go_enter Tryd.func3, Tryd.ntmps3
  go_upto_region 1 with fail
  try simp only [Nat.add_assoc, Nat.reduceAdd, Nat.add_zero]
  generalize ((w).alloc (.cells #[.bool na, .slice aa qa ca] 24)).alloc (.cells #[.bool nb, .slice ab qb cb] 24) = x8 at *
  go_wp2_with fail
  with_reducible refine (law09Sane _).mono ?_
  rintro e x9 ⟨rfl, hy⟩
  have hx := hx.trans hy
  have Ka := Lib.hid (Ka.out.ext hy)
  have Kb := Lib.hid (Kb.out.ext hy)
  clear hy
  have ca0 := Ka.out.cell (i := 0) (v := .bool na) rfl
  have ca1 := Ka.out.cell (i := 1) (v := .slice aa qa ca) rfl
  go_wp2_with fail
  with_reducible refine (FA.out _).mono ?_
  rintro e x10 ⟨rfl, hy⟩
  have hx := hx.trans hy
  have Ka := Lib.hid (Ka.out.ext hy)
  have Kb := Lib.hid (Kb.out.ext hy)
  clear hy
  clear ca0 ca1
  have cb0 := Kb.out.cell (i := 0) (v := .bool nb) rfl
  have cb1 := Kb.out.cell (i := 1) (v := .slice ab qb cb) rfl
  go_wp2_with fail
  with_reducible refine (FB.out _).mono ?_
  rintro e x11 ⟨rfl, hy⟩
  have hx := hx.trans hy
  have Ka := Lib.hid (Ka.out.ext hy)
  have Kb := Lib.hid (Kb.out.ext hy)
  clear hy
  clear cb0 cb1
  have ca0 := Ka.out.cell (i := 0) (v := .bool na) rfl
  have ca1 := Ka.out.cell (i := 1) (v := .slice aa qa ca) rfl
  have cb0 := Kb.out.cell (i := 0) (v := .bool nb) rfl
  have cb1 := Kb.out.cell (i := 1) (v := .slice ab qb cb) rfl
  go_wp2_with fail
  with_reducible refine ((HD.out _ hx).1).mono ?_
  rintro e x12 ⟨v, u, rfl, hv, hu, hy⟩
  have hx := hx.trans hy
  have Ka := Lib.hid (Ka.out.ext hy)
  have Kb := Lib.hid (Kb.out.ext hy)
  clear hy
  obtain ⟨nQ, aQ, qQ, cQ, rfl⟩ := hv.form
  obtain ⟨nR, aR, qR, cR, rfl⟩ := hu.form
  have VQ := Lib.hid hv
  have VR := Lib.hid hu
  clear hv hu
  go_upto_region 6 with fail
  have hl : Ext x12 ((x12.alloc (.cells #[.bool nQ, .slice aQ qQ cQ] 24)).alloc (.cells #[.bool nR, .slice aR qR cR] 24)) := (by repeat (first | with_reducible exact Ext.refl _ | with_reducible assumption | with_reducible refine Ext.drewN ?_ _ | with_reducible refine Ext.drew ?_ | with_reducible refine Ext.alloc' ?_ _ | with_reducible refine Ext.set ?_ (by dsimp only; omega) _))
  have hx := hx.trans hl
  have Ka := Lib.hid (Ka.out.ext hl)
  have Kb := Lib.hid (Kb.out.ext hl)
  have VQ := Lib.hid (VQ.out.ext hl)
  have VR := Lib.hid (VR.out.ext hl)
  have KQ := Lib.hid ((Blk.new0 x12 #[.bool nQ, .slice aQ qQ cQ] 24).alloc (.cells #[.bool nR, .slice aR qR cR] 24))
  have KR := Lib.hid (Blk.new1 x12 (.cells #[.bool nQ, .slice aQ qQ cQ] 24) #[.bool nR, .slice aR qR cR] 24)
  clear hl
  generalize (x12.alloc (.cells #[.bool nQ, .slice aQ qQ cQ] 24)).alloc (.cells #[.bool nR, .slice aR qR cR] 24) = x13 at *
  generalize x12.heap.size = pQ at *
  clear ca0 ca1 cb0 cb1
  have ca0 := Ka.out.cell (i := 0) (v := .bool na) rfl
  have ca1 := Ka.out.cell (i := 1) (v := .slice aa qa ca) rfl
  have cb0 := Kb.out.cell (i := 0) (v := .bool nb) rfl
  have cb1 := Kb.out.cell (i := 1) (v := .slice ab qb cb) rfl
  go_wp2_with fail
  with_reducible refine ((HD.out _ hx).2).mono ?_
  rintro e x14 ⟨v, u, rfl, hv, hu, hy⟩
  have hx := hx.trans hy
  have Ka := Lib.hid (Ka.out.ext hy)
  have Kb := Lib.hid (Kb.out.ext hy)
  have VQ := Lib.hid (VQ.out.ext hy)
  have VR := Lib.hid (VR.out.ext hy)
  have KQ := Lib.hid (KQ.out.ext hy)
  have KR := Lib.hid (KR.out.ext hy)
  clear hy
  obtain ⟨nS, aS, qS, cS, rfl⟩ := hv.form
  obtain ⟨nT, aT, qT, cT, rfl⟩ := hu.form
  have VS := Lib.hid hv
  have VT := Lib.hid hu
  clear hv hu
  go_upto_region 7 with fail
  have hl : Ext x14 ((x14.alloc (.cells #[.bool nS, .slice aS qS cS] 24)).alloc (.cells #[.bool nT, .slice aT qT cT] 24)) := (by repeat (first | with_reducible exact Ext.refl _ | with_reducible assumption | with_reducible refine Ext.drewN ?_ _ | with_reducible refine Ext.drew ?_ | with_reducible refine Ext.alloc' ?_ _ | with_reducible refine Ext.set ?_ (by dsimp only; omega) _))
  have hx := hx.trans hl
  have Ka := Lib.hid (Ka.out.ext hl)
  have Kb := Lib.hid (Kb.out.ext hl)
  have VQ := Lib.hid (VQ.out.ext hl)
  have VR := Lib.hid (VR.out.ext hl)
  have KQ := Lib.hid (KQ.out.ext hl)
  have KR := Lib.hid (KR.out.ext hl)
  have VS := Lib.hid (VS.out.ext hl)
  have VT := Lib.hid (VT.out.ext hl)
  have KS := Lib.hid ((Blk.new0 x14 #[.bool nS, .slice aS qS cS] 24).alloc (.cells #[.bool nT, .slice aT qT cT] 24))
  have KT := Lib.hid (Blk.new1 x14 (.cells #[.bool nS, .slice aS qS cS] 24) #[.bool nT, .slice aT qT cT] 24)
  clear hl
  generalize (x14.alloc (.cells #[.bool nS, .slice aS qS cS] 24)).alloc (.cells #[.bool nT, .slice aT qT cT] 24) = x15 at *
  generalize x14.heap.size = pS at *
  clear ca0 ca1 cb0 cb1
  have ca0 := Ka.out.cell (i := 0) (v := .bool na) rfl
  have ca1 := Ka.out.cell (i := 1) (v := .slice aa qa ca) rfl
  have cb0 := Kb.out.cell (i := 0) (v := .bool nb) rfl
  have cb1 := Kb.out.cell (i := 1) (v := .slice ab qb cb) rfl
  go_wp2_with fail
  with_reducible refine ((HG.out _ hx).1).mono ?_
  rintro e x16 ⟨v, rfl, hv, hy⟩
  have hv := hv
  have hx := hx.trans hy
  have Ka := Lib.hid (Ka.out.ext hy)
  have Kb := Lib.hid (Kb.out.ext hy)
  have VQ := Lib.hid (VQ.out.ext hy)
  have VR := Lib.hid (VR.out.ext hy)
  have KQ := Lib.hid (KQ.out.ext hy)
  have KR := Lib.hid (KR.out.ext hy)
  have VS := Lib.hid (VS.out.ext hy)
  have VT := Lib.hid (VT.out.ext hy)
  have KS := Lib.hid (KS.out.ext hy)
  have KT := Lib.hid (KT.out.ext hy)
  clear hy
  obtain ⟨nX, aX, qX, cX, rfl⟩ := hv.form
  have VX := Lib.hid hv
  clear hv
  go_upto_region 8 with fail
  have hl := Ext.alloc x16 (.cells #[.bool nX, .slice aX qX cX] 24)
  have hx := hx.trans hl
  have Ka := Lib.hid (Ka.out.ext hl)
  have Kb := Lib.hid (Kb.out.ext hl)
  have VQ := Lib.hid (VQ.out.ext hl)
  have VR := Lib.hid (VR.out.ext hl)
  have KQ := Lib.hid (KQ.out.ext hl)
  have KR := Lib.hid (KR.out.ext hl)
  have VS := Lib.hid (VS.out.ext hl)
  have VT := Lib.hid (VT.out.ext hl)
  have KS := Lib.hid (KS.out.ext hl)
  have KT := Lib.hid (KT.out.ext hl)
  have VX := Lib.hid (VX.out.ext hl)
  have KX := Lib.hid (Blk.new0 x16 #[.bool nX, .slice aX qX cX] 24)
  clear hl
  generalize x16.alloc (.cells #[.bool nX, .slice aX qX cX] 24) = x17 at *
  generalize x16.heap.size = pX at *
  clear ca0 ca1 cb0 cb1
  have ca0 := Ka.out.cell (i := 0) (v := .bool na) rfl
  have ca1 := Ka.out.cell (i := 1) (v := .slice aa qa ca) rfl
  have cb0 := Kb.out.cell (i := 0) (v := .bool nb) rfl
  have cb1 := Kb.out.cell (i := 1) (v := .slice ab qb cb) rfl
  go_wp2_with fail
  with_reducible refine ((HG.out _ hx).2).mono ?_
  rintro e x18 ⟨v, rfl, hv, hy⟩
  have hv := hv
  have hx := hx.trans hy
  have Ka := Lib.hid (Ka.out.ext hy)
  have Kb := Lib.hid (Kb.out.ext hy)
  have VQ := Lib.hid (VQ.out.ext hy)
  have VR := Lib.hid (VR.out.ext hy)
  have KQ := Lib.hid (KQ.out.ext hy)
  have KR := Lib.hid (KR.out.ext hy)
  have VS := Lib.hid (VS.out.ext hy)
  have VT := Lib.hid (VT.out.ext hy)
  have KS := Lib.hid (KS.out.ext hy)
  have KT := Lib.hid (KT.out.ext hy)
  have VX := Lib.hid (VX.out.ext hy)
  have KX := Lib.hid (KX.out.ext hy)
  clear hy
  obtain ⟨nY, aY, qY, cY, rfl⟩ := hv.form
  have VY := Lib.hid hv
  clear hv
  go_upto_region 9 with fail
  have hl := Ext.alloc x18 (.cells #[.bool nY, .slice aY qY cY] 24)
  have hx := hx.trans hl
  have Ka := Lib.hid (Ka.out.ext hl)
  have Kb := Lib.hid (Kb.out.ext hl)
  have VQ := Lib.hid (VQ.out.ext hl)
  have VR := Lib.hid (VR.out.ext hl)
  have KQ := Lib.hid (KQ.out.ext hl)
  have KR := Lib.hid (KR.out.ext hl)
  have VS := Lib.hid (VS.out.ext hl)
  have VT := Lib.hid (VT.out.ext hl)
  have KS := Lib.hid (KS.out.ext hl)
  have KT := Lib.hid (KT.out.ext hl)
  have VX := Lib.hid (VX.out.ext hl)
  have KX := Lib.hid (KX.out.ext hl)
  have VY := Lib.hid (VY.out.ext hl)
  have KY := Lib.hid (Blk.new0 x18 #[.bool nY, .slice aY qY cY] 24)
  clear hl
  generalize x18.alloc (.cells #[.bool nY, .slice aY qY cY] 24) = x19 at *
  generalize x18.heap.size = pY at *
  clear ca0 ca1 cb0 cb1
  have cQ0 := KQ.out.cell (i := 0) (v := .bool nQ) rfl
  have cQ1 := KQ.out.cell (i := 1) (v := .slice aQ qQ cQ) rfl
  have cS0 := KS.out.cell (i := 0) (v := .bool nS) rfl
  have cS1 := KS.out.cell (i := 1) (v := .slice aS qS cS) rfl
  go_wp2_with fail
  with_reducible refine (sameT VQ.out VS.out rfl).mono ?_
  rintro e x20 ⟨rfl, hy⟩
  have hx := hx.trans hy
  have Ka := Lib.hid (Ka.out.ext hy)
  have Kb := Lib.hid (Kb.out.ext hy)
  have VQ := Lib.hid (VQ.out.ext hy)
  have VR := Lib.hid (VR.out.ext hy)
  have KQ := Lib.hid (KQ.out.ext hy)
  have KR := Lib.hid (KR.out.ext hy)
  have VS := Lib.hid (VS.out.ext hy)
  have VT := Lib.hid (VT.out.ext hy)
  have KS := Lib.hid (KS.out.ext hy)
  have KT := Lib.hid (KT.out.ext hy)
  have VX := Lib.hid (VX.out.ext hy)
  have KX := Lib.hid (KX.out.ext hy)
  have VY := Lib.hid (VY.out.ext hy)
  have KY := Lib.hid (KY.out.ext hy)
  clear hy
  clear cQ0 cQ1 cS0 cS1
  have cR0 := KR.out.cell (i := 0) (v := .bool nR) rfl
  have cR1 := KR.out.cell (i := 1) (v := .slice aR qR cR) rfl
  have cT0 := KT.out.cell (i := 0) (v := .bool nT) rfl
  have cT1 := KT.out.cell (i := 1) (v := .slice aT qT cT) rfl
  go_wp2_with fail
  with_reducible refine (sameT VR.out VT.out rfl).mono ?_
  rintro e x21 ⟨rfl, hy⟩
  have hx := hx.trans hy
  have Ka := Lib.hid (Ka.out.ext hy)
  have Kb := Lib.hid (Kb.out.ext hy)
  have VQ := Lib.hid (VQ.out.ext hy)
  have VR := Lib.hid (VR.out.ext hy)
  have KQ := Lib.hid (KQ.out.ext hy)
  have KR := Lib.hid (KR.out.ext hy)
  have VS := Lib.hid (VS.out.ext hy)
  have VT := Lib.hid (VT.out.ext hy)
  have KS := Lib.hid (KS.out.ext hy)
  have KT := Lib.hid (KT.out.ext hy)
  have VX := Lib.hid (VX.out.ext hy)
  have KX := Lib.hid (KX.out.ext hy)
  have VY := Lib.hid (VY.out.ext hy)
  have KY := Lib.hid (KY.out.ext hy)
  clear hy
  clear cR0 cR1 cT0 cT1
  have cX0 := KX.out.cell (i := 0) (v := .bool nX) rfl
  have cX1 := KX.out.cell (i := 1) (v := .slice aX qX cX) rfl
  have cY0 := KY.out.cell (i := 0) (v := .bool nY) rfl
  have cY1 := KY.out.cell (i := 1) (v := .slice aY qY cY) rfl
  go_wp2_with fail
  with_reducible refine (sameT VX.out VY.out rfl).mono ?_
  rintro e x22 ⟨rfl, hy⟩
  have hx := hx.trans hy
  have Ka := Lib.hid (Ka.out.ext hy)
  have Kb := Lib.hid (Kb.out.ext hy)
  have VQ := Lib.hid (VQ.out.ext hy)
  have VR := Lib.hid (VR.out.ext hy)
  have KQ := Lib.hid (KQ.out.ext hy)
  have KR := Lib.hid (KR.out.ext hy)
  have VS := Lib.hid (VS.out.ext hy)
  have VT := Lib.hid (VT.out.ext hy)
  have KS := Lib.hid (KS.out.ext hy)
  have KT := Lib.hid (KT.out.ext hy)
  have VX := Lib.hid (VX.out.ext hy)
  have KX := Lib.hid (KX.out.ext hy)
  have VY := Lib.hid (VY.out.ext hy)
  have KY := Lib.hid (KY.out.ext hy)
  clear hy
  clear cX0 cX1 cY0 cY1
  go_wp2_with fail
  go_ret
  exact ⟨rfl, hx⟩
set_option maxHeartbeats 8000000 in
theorem law_Div3 (na nb : Bool) (aa ab : Option Addr) (qa qb ca cb : Nat) (l m : List Int) (n k : Int) (w : World) (ha : Ints w aa ca l) (hb : Ints w ab cb m) (la : l.length = qa) (lb : m.length = qb) (hf : fewN qa = true ∧ fewN qb = true ∧ (n ≤ 100)) :
    Calls Tryd.prog 3 #[.agg #[.bool na, .slice aa qa ca], .agg #[.bool nb, .slice ab qb cb], .int .i64 n, .int .i64 k] w fun e w' => e = .returned (.bool true) ∧ Ext w w' := by
  have FA := Lib.hid (fun W => ref_Few na aa ca l W)
  have FB := Lib.hid (fun W => ref_Few nb ab cb m W)
  rw [la] at FA
  rw [lb] at FB
  obtain ⟨zD, yD, ED, hD⟩ := both_Div (n1 := na) (n2 := nb) ha hb
  rw [la, lb] at hD
  have HD := Lib.hid hD
  clear hD
  obtain ⟨zG, EG, hG⟩ := both_Gcd (n1 := na) (n2 := nb) ha hb
  rw [la, lb] at hG
  have HG := Lib.hid hG
  clear hG
  obtain ⟨zC, EC, hC⟩ := both_Choose n k w
  have HC := Lib.hid hC
  clear hC
  rw [hf.1] at FA
  rw [hf.2.1] at FB
  have u1 : decide (100 < n) = false := by have := hf.2.2; simp only [decide_eq_false_iff_not]; omega
  clear hf la lb ha hb
  have hx : Ext w (((w).alloc (.cells #[.bool na, .slice aa qa ca] 24)).alloc (.cells #[.bool nb, .slice ab qb cb] 24)) := (by repeat (first | with_reducible exact Ext.refl _ | with_reducible assumption | with_reducible refine Ext.drewN ?_ _ | with_reducible refine Ext.drew ?_ | with_reducible refine Ext.alloc' ?_ _ | with_reducible refine Ext.set ?_ (by dsimp only; omega) _))
  have Ka : Blk (((w).alloc (.cells #[.bool na, .slice aa qa ca] 24)).alloc (.cells #[.bool nb, .slice ab qb cb] 24)) (w.heap.size) #[.bool na, .slice aa qa ca] 24 := by have h := (Blk.new0 (w) #[.bool na, .slice aa qa ca] 24).alloc (.cells #[.bool nb, .slice ab qb cb] 24); simpa [Nat.add_assoc] using h
  have Ka := Lib.hid Ka
  have Kb : Blk (((w).alloc (.cells #[.bool na, .slice aa qa ca] 24)).alloc (.cells #[.bool nb, .slice ab qb cb] 24)) (w.heap.size + 1) #[.bool nb, .slice ab qb cb] 24 := by have h := Blk.new0 ((w).alloc (.cells #[.bool na, .slice aa qa ca] 24)) #[.bool nb, .slice ab qb cb] 24; simpa [Nat.add_assoc] using h
  have Kb := Lib.hid Kb
  go_enter Tryd.func3, Tryd.ntmps3
  go_upto_region 1 with fail
  try simp only [Nat.add_assoc, Nat.reduceAdd, Nat.add_zero]
  generalize ((w).alloc (.cells #[.bool na, .slice aa qa ca] 24)).alloc (.cells #[.bool nb, .slice ab qb cb] 24) = x23 at *
  go_wp2_with fail
  with_reducible refine (law09Sane _).mono ?_
  rintro e x24 ⟨rfl, hy⟩
  have hx := hx.trans hy
  have Ka := Lib.hid (Ka.out.ext hy)
  have Kb := Lib.hid (Kb.out.ext hy)
  clear hy
  have ca0 := Ka.out.cell (i := 0) (v := .bool na) rfl
  have ca1 := Ka.out.cell (i := 1) (v := .slice aa qa ca) rfl
  go_wp2_with fail
  with_reducible refine (FA.out _).mono ?_
  rintro e x25 ⟨rfl, hy⟩
  have hx := hx.trans hy
  have Ka := Lib.hid (Ka.out.ext hy)
  have Kb := Lib.hid (Kb.out.ext hy)
  clear hy
  clear ca0 ca1
  have cb0 := Kb.out.cell (i := 0) (v := .bool nb) rfl
  have cb1 := Kb.out.cell (i := 1) (v := .slice ab qb cb) rfl
  go_wp2_with fail
  with_reducible refine (FB.out _).mono ?_
  rintro e x26 ⟨rfl, hy⟩
  have hx := hx.trans hy
  have Ka := Lib.hid (Ka.out.ext hy)
  have Kb := Lib.hid (Kb.out.ext hy)
  clear hy
  clear cb0 cb1
  have ca0 := Ka.out.cell (i := 0) (v := .bool na) rfl
  have ca1 := Ka.out.cell (i := 1) (v := .slice aa qa ca) rfl
  have cb0 := Kb.out.cell (i := 0) (v := .bool nb) rfl
  have cb1 := Kb.out.cell (i := 1) (v := .slice ab qb cb) rfl
  go_wp2_with fail
  with_reducible refine ((HD.out _ hx).1).mono ?_
  rintro e x27 ⟨v, u, rfl, hv, hu, hy⟩
  have hx := hx.trans hy
  have Ka := Lib.hid (Ka.out.ext hy)
  have Kb := Lib.hid (Kb.out.ext hy)
  clear hy
  obtain ⟨nQ, aQ, qQ, cQ, rfl⟩ := hv.form
  obtain ⟨nR, aR, qR, cR, rfl⟩ := hu.form
  have VQ := Lib.hid hv
  have VR := Lib.hid hu
  clear hv hu
  go_upto_region 6 with fail
  have hl : Ext x27 ((x27.alloc (.cells #[.bool nQ, .slice aQ qQ cQ] 24)).alloc (.cells #[.bool nR, .slice aR qR cR] 24)) := (by repeat (first | with_reducible exact Ext.refl _ | with_reducible assumption | with_reducible refine Ext.drewN ?_ _ | with_reducible refine Ext.drew ?_ | with_reducible refine Ext.alloc' ?_ _ | with_reducible refine Ext.set ?_ (by dsimp only; omega) _))
  have hx := hx.trans hl
  have Ka := Lib.hid (Ka.out.ext hl)
  have Kb := Lib.hid (Kb.out.ext hl)
  have VQ := Lib.hid (VQ.out.ext hl)
  have VR := Lib.hid (VR.out.ext hl)
  have KQ := Lib.hid ((Blk.new0 x27 #[.bool nQ, .slice aQ qQ cQ] 24).alloc (.cells #[.bool nR, .slice aR qR cR] 24))
  have KR := Lib.hid (Blk.new1 x27 (.cells #[.bool nQ, .slice aQ qQ cQ] 24) #[.bool nR, .slice aR qR cR] 24)
  clear hl
  generalize (x27.alloc (.cells #[.bool nQ, .slice aQ qQ cQ] 24)).alloc (.cells #[.bool nR, .slice aR qR cR] 24) = x28 at *
  generalize x27.heap.size = pQ at *
  clear ca0 ca1 cb0 cb1
  have ca0 := Ka.out.cell (i := 0) (v := .bool na) rfl
  have ca1 := Ka.out.cell (i := 1) (v := .slice aa qa ca) rfl
  have cb0 := Kb.out.cell (i := 0) (v := .bool nb) rfl
  have cb1 := Kb.out.cell (i := 1) (v := .slice ab qb cb) rfl
  go_wp2_with fail
  with_reducible refine ((HD.out _ hx).2).mono ?_
  rintro e x29 ⟨v, u, rfl, hv, hu, hy⟩
  have hx := hx.trans hy
  have Ka := Lib.hid (Ka.out.ext hy)
  have Kb := Lib.hid (Kb.out.ext hy)
  have VQ := Lib.hid (VQ.out.ext hy)
  have VR := Lib.hid (VR.out.ext hy)
  have KQ := Lib.hid (KQ.out.ext hy)
  have KR := Lib.hid (KR.out.ext hy)
  clear hy
  obtain ⟨nS, aS, qS, cS, rfl⟩ := hv.form
  obtain ⟨nT, aT, qT, cT, rfl⟩ := hu.form
  have VS := Lib.hid hv
  have VT := Lib.hid hu
  clear hv hu
  go_upto_region 7 with fail
  have hl : Ext x29 ((x29.alloc (.cells #[.bool nS, .slice aS qS cS] 24)).alloc (.cells #[.bool nT, .slice aT qT cT] 24)) := (by repeat (first | with_reducible exact Ext.refl _ | with_reducible assumption | with_reducible refine Ext.drewN ?_ _ | with_reducible refine Ext.drew ?_ | with_reducible refine Ext.alloc' ?_ _ | with_reducible refine Ext.set ?_ (by dsimp only; omega) _))
  have hx := hx.trans hl
  have Ka := Lib.hid (Ka.out.ext hl)
  have Kb := Lib.hid (Kb.out.ext hl)
  have VQ := Lib.hid (VQ.out.ext hl)
  have VR := Lib.hid (VR.out.ext hl)
  have KQ := Lib.hid (KQ.out.ext hl)
  have KR := Lib.hid (KR.out.ext hl)
  have VS := Lib.hid (VS.out.ext hl)
  have VT := Lib.hid (VT.out.ext hl)
  have KS := Lib.hid ((Blk.new0 x29 #[.bool nS, .slice aS qS cS] 24).alloc (.cells #[.bool nT, .slice aT qT cT] 24))
  have KT := Lib.hid (Blk.new1 x29 (.cells #[.bool nS, .slice aS qS cS] 24) #[.bool nT, .slice aT qT cT] 24)
  clear hl
  generalize (x29.alloc (.cells #[.bool nS, .slice aS qS cS] 24)).alloc (.cells #[.bool nT, .slice aT qT cT] 24) = x30 at *
  generalize x29.heap.size = pS at *
  clear ca0 ca1 cb0 cb1
  have ca0 := Ka.out.cell (i := 0) (v := .bool na) rfl
  have ca1 := Ka.out.cell (i := 1) (v := .slice aa qa ca) rfl
  have cb0 := Kb.out.cell (i := 0) (v := .bool nb) rfl
  have cb1 := Kb.out.cell (i := 1) (v := .slice ab qb cb) rfl
  go_wp2_with fail
  with_reducible refine ((HG.out _ hx).1).mono ?_
  rintro e x31 ⟨v, rfl, hv, hy⟩
  have hv := hv
  have hx := hx.trans hy
  have Ka := Lib.hid (Ka.out.ext hy)
  have Kb := Lib.hid (Kb.out.ext hy)
  have VQ := Lib.hid (VQ.out.ext hy)
  have VR := Lib.hid (VR.out.ext hy)
  have KQ := Lib.hid (KQ.out.ext hy)
  have KR := Lib.hid (KR.out.ext hy)
  have VS := Lib.hid (VS.out.ext hy)
  have VT := Lib.hid (VT.out.ext hy)
  have KS := Lib.hid (KS.out.ext hy)
  have KT := Lib.hid (KT.out.ext hy)
  clear hy
  obtain ⟨nX, aX, qX, cX, rfl⟩ := hv.form
  have VX := Lib.hid hv
  clear hv
  go_upto_region 8 with fail
  have hl := Ext.alloc x31 (.cells #[.bool nX, .slice aX qX cX] 24)
  have hx := hx.trans hl
  have Ka := Lib.hid (Ka.out.ext hl)
  have Kb := Lib.hid (Kb.out.ext hl)
  have VQ := Lib.hid (VQ.out.ext hl)
  have VR := Lib.hid (VR.out.ext hl)
  have KQ := Lib.hid (KQ.out.ext hl)
  have KR := Lib.hid (KR.out.ext hl)
  have VS := Lib.hid (VS.out.ext hl)
  have VT := Lib.hid (VT.out.ext hl)
  have KS := Lib.hid (KS.out.ext hl)
  have KT := Lib.hid (KT.out.ext hl)
  have VX := Lib.hid (VX.out.ext hl)
  have KX := Lib.hid (Blk.new0 x31 #[.bool nX, .slice aX qX cX] 24)
  clear hl
  generalize x31.alloc (.cells #[.bool nX, .slice aX qX cX] 24) = x32 at *
  generalize x31.heap.size = pX at *
  clear ca0 ca1 cb0 cb1
  have ca0 := Ka.out.cell (i := 0) (v := .bool na) rfl
  have ca1 := Ka.out.cell (i := 1) (v := .slice aa qa ca) rfl
  have cb0 := Kb.out.cell (i := 0) (v := .bool nb) rfl
  have cb1 := Kb.out.cell (i := 1) (v := .slice ab qb cb) rfl
  go_wp2_with fail
  with_reducible refine ((HG.out _ hx).2).mono ?_
  rintro e x33 ⟨v, rfl, hv, hy⟩
  have hv := hv
  have hx := hx.trans hy
  have Ka := Lib.hid (Ka.out.ext hy)
  have Kb := Lib.hid (Kb.out.ext hy)
  have VQ := Lib.hid (VQ.out.ext hy)
  have VR := Lib.hid (VR.out.ext hy)
  have KQ := Lib.hid (KQ.out.ext hy)
  have KR := Lib.hid (KR.out.ext hy)
  have VS := Lib.hid (VS.out.ext hy)
  have VT := Lib.hid (VT.out.ext hy)
  have KS := Lib.hid (KS.out.ext hy)
  have KT := Lib.hid (KT.out.ext hy)
  have VX := Lib.hid (VX.out.ext hy)
  have KX := Lib.hid (KX.out.ext hy)
  clear hy
  obtain ⟨nY, aY, qY, cY, rfl⟩ := hv.form
  have VY := Lib.hid hv
  clear hv
  go_upto_region 9 with fail
  have hl := Ext.alloc x33 (.cells #[.bool nY, .slice aY qY cY] 24)
  have hx := hx.trans hl
  have Ka := Lib.hid (Ka.out.ext hl)
  have Kb := Lib.hid (Kb.out.ext hl)
  have VQ := Lib.hid (VQ.out.ext hl)
  have VR := Lib.hid (VR.out.ext hl)
  have KQ := Lib.hid (KQ.out.ext hl)
  have KR := Lib.hid (KR.out.ext hl)
  have VS := Lib.hid (VS.out.ext hl)
  have VT := Lib.hid (VT.out.ext hl)
  have KS := Lib.hid (KS.out.ext hl)
  have KT := Lib.hid (KT.out.ext hl)
  have VX := Lib.hid (VX.out.ext hl)
  have KX := Lib.hid (KX.out.ext hl)
  have VY := Lib.hid (VY.out.ext hl)
  have KY := Lib.hid (Blk.new0 x33 #[.bool nY, .slice aY qY cY] 24)
  clear hl
  generalize x33.alloc (.cells #[.bool nY, .slice aY qY cY] 24) = x34 at *
  generalize x33.heap.size = pY at *
  clear ca0 ca1 cb0 cb1
  have cQ0 := KQ.out.cell (i := 0) (v := .bool nQ) rfl
  have cQ1 := KQ.out.cell (i := 1) (v := .slice aQ qQ cQ) rfl
  have cS0 := KS.out.cell (i := 0) (v := .bool nS) rfl
  have cS1 := KS.out.cell (i := 1) (v := .slice aS qS cS) rfl
  go_wp2_with fail
  with_reducible refine (sameT VQ.out VS.out rfl).mono ?_
  rintro e x35 ⟨rfl, hy⟩
  have hx := hx.trans hy
  have Ka := Lib.hid (Ka.out.ext hy)
  have Kb := Lib.hid (Kb.out.ext hy)
  have VQ := Lib.hid (VQ.out.ext hy)
  have VR := Lib.hid (VR.out.ext hy)
  have KQ := Lib.hid (KQ.out.ext hy)
  have KR := Lib.hid (KR.out.ext hy)
  have VS := Lib.hid (VS.out.ext hy)
  have VT := Lib.hid (VT.out.ext hy)
  have KS := Lib.hid (KS.out.ext hy)
  have KT := Lib.hid (KT.out.ext hy)
  have VX := Lib.hid (VX.out.ext hy)
  have KX := Lib.hid (KX.out.ext hy)
  have VY := Lib.hid (VY.out.ext hy)
  have KY := Lib.hid (KY.out.ext hy)
  clear hy
  clear cQ0 cQ1 cS0 cS1
  have cR0 := KR.out.cell (i := 0) (v := .bool nR) rfl
  have cR1 := KR.out.cell (i := 1) (v := .slice aR qR cR) rfl
  have cT0 := KT.out.cell (i := 0) (v := .bool nT) rfl
  have cT1 := KT.out.cell (i := 1) (v := .slice aT qT cT) rfl
  go_wp2_with fail
  with_reducible refine (sameT VR.out VT.out rfl).mono ?_
  rintro e x36 ⟨rfl, hy⟩
  have hx := hx.trans hy
  have Ka := Lib.hid (Ka.out.ext hy)
  have Kb := Lib.hid (Kb.out.ext hy)
  have VQ := Lib.hid (VQ.out.ext hy)
  have VR := Lib.hid (VR.out.ext hy)
  have KQ := Lib.hid (KQ.out.ext hy)
  have KR := Lib.hid (KR.out.ext hy)
  have VS := Lib.hid (VS.out.ext hy)
  have VT := Lib.hid (VT.out.ext hy)
  have KS := Lib.hid (KS.out.ext hy)
  have KT := Lib.hid (KT.out.ext hy)
  have VX := Lib.hid (VX.out.ext hy)
  have KX := Lib.hid (KX.out.ext hy)
  have VY := Lib.hid (VY.out.ext hy)
  have KY := Lib.hid (KY.out.ext hy)
  clear hy
  clear cR0 cR1 cT0 cT1
  have cX0 := KX.out.cell (i := 0) (v := .bool nX) rfl
  have cX1 := KX.out.cell (i := 1) (v := .slice aX qX cX) rfl
  have cY0 := KY.out.cell (i := 0) (v := .bool nY) rfl
  have cY1 := KY.out.cell (i := 1) (v := .slice aY qY cY) rfl
  go_wp2_with fail
  with_reducible refine (sameT VX.out VY.out rfl).mono ?_
  rintro e x37 ⟨rfl, hy⟩
  have hx := hx.trans hy
  have Ka := Lib.hid (Ka.out.ext hy)
  have Kb := Lib.hid (Kb.out.ext hy)
  have VQ := Lib.hid (VQ.out.ext hy)
  have VR := Lib.hid (VR.out.ext hy)
  have KQ := Lib.hid (KQ.out.ext hy)
  have KR := Lib.hid (KR.out.ext hy)
  have VS := Lib.hid (VS.out.ext hy)
  have VT := Lib.hid (VT.out.ext hy)
  have KS := Lib.hid (KS.out.ext hy)
  have KT := Lib.hid (KT.out.ext hy)
  have VX := Lib.hid (VX.out.ext hy)
  have KX := Lib.hid (KX.out.ext hy)
  have VY := Lib.hid (VY.out.ext hy)
  have KY := Lib.hid (KY.out.ext hy)
  clear hy
  clear cX0 cX1 cY0 cY1
  go_wp2_with fail
  with_reducible refine ((HC.out _ hx).1).mono ?_
  rintro e x38 ⟨v, rfl, hv, hy⟩
  have hv := hv
  have hx := hx.trans hy
  have Ka := Lib.hid (Ka.out.ext hy)
  have Kb := Lib.hid (Kb.out.ext hy)
  have VQ := Lib.hid (VQ.out.ext hy)
  have VR := Lib.hid (VR.out.ext hy)
  have KQ := Lib.hid (KQ.out.ext hy)
  have KR := Lib.hid (KR.out.ext hy)
  have VS := Lib.hid (VS.out.ext hy)
  have VT := Lib.hid (VT.out.ext hy)
  have KS := Lib.hid (KS.out.ext hy)
  have KT := Lib.hid (KT.out.ext hy)
  have VX := Lib.hid (VX.out.ext hy)
  have KX := Lib.hid (KX.out.ext hy)
  have VY := Lib.hid (VY.out.ext hy)
  have KY := Lib.hid (KY.out.ext hy)
  clear hy
  obtain ⟨nU, aU, qU, cU, rfl⟩ := hv.form
  have VU := Lib.hid hv
  clear hv
  go_upto_region 14 with fail
  have hl := Ext.alloc x38 (.cells #[.bool nU, .slice aU qU cU] 24)
  have hx := hx.trans hl
  have Ka := Lib.hid (Ka.out.ext hl)
  have Kb := Lib.hid (Kb.out.ext hl)
  have VQ := Lib.hid (VQ.out.ext hl)
  have VR := Lib.hid (VR.out.ext hl)
  have KQ := Lib.hid (KQ.out.ext hl)
  have KR := Lib.hid (KR.out.ext hl)
  have VS := Lib.hid (VS.out.ext hl)
  have VT := Lib.hid (VT.out.ext hl)
  have KS := Lib.hid (KS.out.ext hl)
  have KT := Lib.hid (KT.out.ext hl)
  have VX := Lib.hid (VX.out.ext hl)
  have KX := Lib.hid (KX.out.ext hl)
  have VY := Lib.hid (VY.out.ext hl)
  have KY := Lib.hid (KY.out.ext hl)
  have VU := Lib.hid (VU.out.ext hl)
  have KU := Lib.hid (Blk.new0 x38 #[.bool nU, .slice aU qU cU] 24)
  clear hl
  generalize x38.alloc (.cells #[.bool nU, .slice aU qU cU] 24) = x39 at *
  generalize x38.heap.size = pU at *
  go_wp2_with fail
  with_reducible refine ((HC.out _ hx).2).mono ?_
  rintro e x40 ⟨v, rfl, hv, hy⟩
  have hv := hv
  have hx := hx.trans hy
  have Ka := Lib.hid (Ka.out.ext hy)
  have Kb := Lib.hid (Kb.out.ext hy)
  have VQ := Lib.hid (VQ.out.ext hy)
  have VR := Lib.hid (VR.out.ext hy)
  have KQ := Lib.hid (KQ.out.ext hy)
  have KR := Lib.hid (KR.out.ext hy)
  have VS := Lib.hid (VS.out.ext hy)
  have VT := Lib.hid (VT.out.ext hy)
  have KS := Lib.hid (KS.out.ext hy)
  have KT := Lib.hid (KT.out.ext hy)
  have VX := Lib.hid (VX.out.ext hy)
  have KX := Lib.hid (KX.out.ext hy)
  have VY := Lib.hid (VY.out.ext hy)
  have KY := Lib.hid (KY.out.ext hy)
  have VU := Lib.hid (VU.out.ext hy)
  have KU := Lib.hid (KU.out.ext hy)
  clear hy
  obtain ⟨nV, aV, qV, cV, rfl⟩ := hv.form
  have VV := Lib.hid hv
  clear hv
  go_upto_region 15 with fail
  have hl := Ext.alloc x40 (.cells #[.bool nV, .slice aV qV cV] 24)
  have hx := hx.trans hl
  have Ka := Lib.hid (Ka.out.ext hl)
  have Kb := Lib.hid (Kb.out.ext hl)
  have VQ := Lib.hid (VQ.out.ext hl)
  have VR := Lib.hid (VR.out.ext hl)
  have KQ := Lib.hid (KQ.out.ext hl)
  have KR := Lib.hid (KR.out.ext hl)
  have VS := Lib.hid (VS.out.ext hl)
  have VT := Lib.hid (VT.out.ext hl)
  have KS := Lib.hid (KS.out.ext hl)
  have KT := Lib.hid (KT.out.ext hl)
  have VX := Lib.hid (VX.out.ext hl)
  have KX := Lib.hid (KX.out.ext hl)
  have VY := Lib.hid (VY.out.ext hl)
  have KY := Lib.hid (KY.out.ext hl)
  have VU := Lib.hid (VU.out.ext hl)
  have KU := Lib.hid (KU.out.ext hl)
  have VV := Lib.hid (VV.out.ext hl)
  have KV := Lib.hid (Blk.new0 x40 #[.bool nV, .slice aV qV cV] 24)
  clear hl
  generalize x40.alloc (.cells #[.bool nV, .slice aV qV cV] 24) = x41 at *
  generalize x40.heap.size = pV at *
  have cU0 := KU.out.cell (i := 0) (v := .bool nU) rfl
  have cU1 := KU.out.cell (i := 1) (v := .slice aU qU cU) rfl
  have cV0 := KV.out.cell (i := 0) (v := .bool nV) rfl
  have cV1 := KV.out.cell (i := 1) (v := .slice aV qV cV) rfl
  go_wp2_with fail
  with_reducible refine (sameT VU.out VV.out rfl).mono ?_
  rintro e x42 ⟨rfl, hy⟩
  have hx := hx.trans hy
  have Ka := Lib.hid (Ka.out.ext hy)
  have Kb := Lib.hid (Kb.out.ext hy)
  have VQ := Lib.hid (VQ.out.ext hy)
  have VR := Lib.hid (VR.out.ext hy)
  have KQ := Lib.hid (KQ.out.ext hy)
  have KR := Lib.hid (KR.out.ext hy)
  have VS := Lib.hid (VS.out.ext hy)
  have VT := Lib.hid (VT.out.ext hy)
  have KS := Lib.hid (KS.out.ext hy)
  have KT := Lib.hid (KT.out.ext hy)
  have VX := Lib.hid (VX.out.ext hy)
  have KX := Lib.hid (KX.out.ext hy)
  have VY := Lib.hid (VY.out.ext hy)
  have KY := Lib.hid (KY.out.ext hy)
  have VU := Lib.hid (VU.out.ext hy)
  have KU := Lib.hid (KU.out.ext hy)
  have VV := Lib.hid (VV.out.ext hy)
  have KV := Lib.hid (KV.out.ext hy)
  clear hy
  clear cU0 cU1 cV0 cV1
  go_wp2_with fail
  go_ret
  exact ⟨rfl, hx⟩
set_option maxHeartbeats 8000000 in
theorem law_Div4 (na nb : Bool) (aa ab : Option Addr) (qa qb ca cb : Nat) (l m : List Int) (n k : Int) (w : World) (ha : Ints w aa ca l) (hb : Ints w ab cb m) (la : l.length = qa) (lb : m.length = qb) (hf : fewN qa = true ∧ fewN qb = true ∧ (4096 < n)) :
    Calls Tryd.prog 3 #[.agg #[.bool na, .slice aa qa ca], .agg #[.bool nb, .slice ab qb cb], .int .i64 n, .int .i64 k] w fun e w' => e = .returned (.bool true) ∧ Ext w w' := by
  have FA := Lib.hid (fun W => ref_Few na aa ca l W)
  have FB := Lib.hid (fun W => ref_Few nb ab cb m W)
  rw [la] at FA
  rw [lb] at FB
  obtain ⟨zD, yD, ED, hD⟩ := both_Div (n1 := na) (n2 := nb) ha hb
  rw [la, lb] at hD
  have HD := Lib.hid hD
  clear hD
  obtain ⟨zG, EG, hG⟩ := both_Gcd (n1 := na) (n2 := nb) ha hb
  rw [la, lb] at hG
  have HG := Lib.hid hG
  clear hG
  obtain ⟨zC, EC, hC⟩ := both_Choose n k w
  have HC := Lib.hid hC
  clear hC
  rw [hf.1] at FA
  rw [hf.2.1] at FB
  have u1 : decide (100 < n) = true := by have := hf.2.2; simp only [decide_eq_true_eq]; omega
  have u2 : decide (n ≤ 4096) = false := by have := hf.2.2; simp only [decide_eq_false_iff_not]; omega
  clear hf la lb ha hb
  have hx : Ext w (((w).alloc (.cells #[.bool na, .slice aa qa ca] 24)).alloc (.cells #[.bool nb, .slice ab qb cb] 24)) := (by repeat (first | with_reducible exact Ext.refl _ | with_reducible assumption | with_reducible refine Ext.drewN ?_ _ | with_reducible refine Ext.drew ?_ | with_reducible refine Ext.alloc' ?_ _ | with_reducible refine Ext.set ?_ (by dsimp only; omega) _))
  have Ka : Blk (((w).alloc (.cells #[.bool na, .slice aa qa ca] 24)).alloc (.cells #[.bool nb, .slice ab qb cb] 24)) (w.heap.size) #[.bool na, .slice aa qa ca] 24 := by have h := (Blk.new0 (w) #[.bool na, .slice aa qa ca] 24).alloc (.cells #[.bool nb, .slice ab qb cb] 24); simpa [Nat.add_assoc] using h
  have Ka := Lib.hid Ka
  have Kb : Blk (((w).alloc (.cells #[.bool na, .slice aa qa ca] 24)).alloc (.cells #[.bool nb, .slice ab qb cb] 24)) (w.heap.size + 1) #[.bool nb, .slice ab qb cb] 24 := by have h := Blk.new0 ((w).alloc (.cells #[.bool na, .slice aa qa ca] 24)) #[.bool nb, .slice ab qb cb] 24; simpa [Nat.add_assoc] using h
  have Kb := Lib.hid Kb
  go_enter Tryd.func3, Tryd.ntmps3
  go_upto_region 1 with fail
  try simp only [Nat.add_assoc, Nat.reduceAdd, Nat.add_zero]
  generalize ((w).alloc (.cells #[.bool na, .slice aa qa ca] 24)).alloc (.cells #[.bool nb, .slice ab qb cb] 24) = x43 at *
  go_wp2_with fail
  with_reducible refine (law09Sane _).mono ?_
  rintro e x44 ⟨rfl, hy⟩
  have hx := hx.trans hy
  have Ka := Lib.hid (Ka.out.ext hy)
  have Kb := Lib.hid (Kb.out.ext hy)
  clear hy
  have ca0 := Ka.out.cell (i := 0) (v := .bool na) rfl
  have ca1 := Ka.out.cell (i := 1) (v := .slice aa qa ca) rfl
  go_wp2_with fail
  with_reducible refine (FA.out _).mono ?_
  rintro e x45 ⟨rfl, hy⟩
  have hx := hx.trans hy
  have Ka := Lib.hid (Ka.out.ext hy)
  have Kb := Lib.hid (Kb.out.ext hy)
  clear hy
  clear ca0 ca1
  have cb0 := Kb.out.cell (i := 0) (v := .bool nb) rfl
  have cb1 := Kb.out.cell (i := 1) (v := .slice ab qb cb) rfl
  go_wp2_with fail
  with_reducible refine (FB.out _).mono ?_
  rintro e x46 ⟨rfl, hy⟩
  have hx := hx.trans hy
  have Ka := Lib.hid (Ka.out.ext hy)
  have Kb := Lib.hid (Kb.out.ext hy)
  clear hy
  clear cb0 cb1
  have ca0 := Ka.out.cell (i := 0) (v := .bool na) rfl
  have ca1 := Ka.out.cell (i := 1) (v := .slice aa qa ca) rfl
  have cb0 := Kb.out.cell (i := 0) (v := .bool nb) rfl
  have cb1 := Kb.out.cell (i := 1) (v := .slice ab qb cb) rfl
  go_wp2_with fail
  with_reducible refine ((HD.out _ hx).1).mono ?_
  rintro e x47 ⟨v, u, rfl, hv, hu, hy⟩
  have hx := hx.trans hy
  have Ka := Lib.hid (Ka.out.ext hy)
  have Kb := Lib.hid (Kb.out.ext hy)
  clear hy
  obtain ⟨nQ, aQ, qQ, cQ, rfl⟩ := hv.form
  obtain ⟨nR, aR, qR, cR, rfl⟩ := hu.form
  have VQ := Lib.hid hv
  have VR := Lib.hid hu
  clear hv hu
  go_upto_region 6 with fail
  have hl : Ext x47 ((x47.alloc (.cells #[.bool nQ, .slice aQ qQ cQ] 24)).alloc (.cells #[.bool nR, .slice aR qR cR] 24)) := (by repeat (first | with_reducible exact Ext.refl _ | with_reducible assumption | with_reducible refine Ext.drewN ?_ _ | with_reducible refine Ext.drew ?_ | with_reducible refine Ext.alloc' ?_ _ | with_reducible refine Ext.set ?_ (by dsimp only; omega) _))
  have hx := hx.trans hl
  have Ka := Lib.hid (Ka.out.ext hl)
  have Kb := Lib.hid (Kb.out.ext hl)
  have VQ := Lib.hid (VQ.out.ext hl)
  have VR := Lib.hid (VR.out.ext hl)
  have KQ := Lib.hid ((Blk.new0 x47 #[.bool nQ, .slice aQ qQ cQ] 24).alloc (.cells #[.bool nR, .slice aR qR cR] 24))
  have KR := Lib.hid (Blk.new1 x47 (.cells #[.bool nQ, .slice aQ qQ cQ] 24) #[.bool nR, .slice aR qR cR] 24)
  clear hl
  generalize (x47.alloc (.cells #[.bool nQ, .slice aQ qQ cQ] 24)).alloc (.cells #[.bool nR, .slice aR qR cR] 24) = x48 at *
  generalize x47.heap.size = pQ at *
  clear ca0 ca1 cb0 cb1
  have ca0 := Ka.out.cell (i := 0) (v := .bool na) rfl
  have ca1 := Ka.out.cell (i := 1) (v := .slice aa qa ca) rfl
  have cb0 := Kb.out.cell (i := 0) (v := .bool nb) rfl
  have cb1 := Kb.out.cell (i := 1) (v := .slice ab qb cb) rfl
  go_wp2_with fail
  with_reducible refine ((HD.out _ hx).2).mono ?_
  rintro e x49 ⟨v, u, rfl, hv, hu, hy⟩
  have hx := hx.trans hy
  have Ka := Lib.hid (Ka.out.ext hy)
  have Kb := Lib.hid (Kb.out.ext hy)
  have VQ := Lib.hid (VQ.out.ext hy)
  have VR := Lib.hid (VR.out.ext hy)
  have KQ := Lib.hid (KQ.out.ext hy)
  have KR := Lib.hid (KR.out.ext hy)
  clear hy
  obtain ⟨nS, aS, qS, cS, rfl⟩ := hv.form
  obtain ⟨nT, aT, qT, cT, rfl⟩ := hu.form
  have VS := Lib.hid hv
  have VT := Lib.hid hu
  clear hv hu
  go_upto_region 7 with fail
  have hl : Ext x49 ((x49.alloc (.cells #[.bool nS, .slice aS qS cS] 24)).alloc (.cells #[.bool nT, .slice aT qT cT] 24)) := (by repeat (first | with_reducible exact Ext.refl _ | with_reducible assumption | with_reducible refine Ext.drewN ?_ _ | with_reducible refine Ext.drew ?_ | with_reducible refine Ext.alloc' ?_ _ | with_reducible refine Ext.set ?_ (by dsimp only; omega) _))
  have hx := hx.trans hl
  have Ka := Lib.hid (Ka.out.ext hl)
  have Kb := Lib.hid (Kb.out.ext hl)
  have VQ := Lib.hid (VQ.out.ext hl)
  have VR := Lib.hid (VR.out.ext hl)
  have KQ := Lib.hid (KQ.out.ext hl)
  have KR := Lib.hid (KR.out.ext hl)
  have VS := Lib.hid (VS.out.ext hl)
  have VT := Lib.hid (VT.out.ext hl)
  have KS := Lib.hid ((Blk.new0 x49 #[.bool nS, .slice aS qS cS] 24).alloc (.cells #[.bool nT, .slice aT qT cT] 24))
  have KT := Lib.hid (Blk.new1 x49 (.cells #[.bool nS, .slice aS qS cS] 24) #[.bool nT, .slice aT qT cT] 24)
  clear hl
  generalize (x49.alloc (.cells #[.bool nS, .slice aS qS cS] 24)).alloc (.cells #[.bool nT, .slice aT qT cT] 24) = x50 at *
  generalize x49.heap.size = pS at *
  clear ca0 ca1 cb0 cb1
  have ca0 := Ka.out.cell (i := 0) (v := .bool na) rfl
  have ca1 := Ka.out.cell (i := 1) (v := .slice aa qa ca) rfl
  have cb0 := Kb.out.cell (i := 0) (v := .bool nb) rfl
  have cb1 := Kb.out.cell (i := 1) (v := .slice ab qb cb) rfl
  go_wp2_with fail
  with_reducible refine ((HG.out _ hx).1).mono ?_
  rintro e x51 ⟨v, rfl, hv, hy⟩
  have hv := hv
  have hx := hx.trans hy
  have Ka := Lib.hid (Ka.out.ext hy)
  have Kb := Lib.hid (Kb.out.ext hy)
  have VQ := Lib.hid (VQ.out.ext hy)
  have VR := Lib.hid (VR.out.ext hy)
  have KQ := Lib.hid (KQ.out.ext hy)
  have KR := Lib.hid (KR.out.ext hy)
  have VS := Lib.hid (VS.out.ext hy)
  have VT := Lib.hid (VT.out.ext hy)
  have KS := Lib.hid (KS.out.ext hy)
  have KT := Lib.hid (KT.out.ext hy)
  clear hy
  obtain ⟨nX, aX, qX, cX, rfl⟩ := hv.form
  have VX := Lib.hid hv
  clear hv
  go_upto_region 8 with fail
  have hl := Ext.alloc x51 (.cells #[.bool nX, .slice aX qX cX] 24)
  have hx := hx.trans hl
  have Ka := Lib.hid (Ka.out.ext hl)
  have Kb := Lib.hid (Kb.out.ext hl)
  have VQ := Lib.hid (VQ.out.ext hl)
  have VR := Lib.hid (VR.out.ext hl)
  have KQ := Lib.hid (KQ.out.ext hl)
  have KR := Lib.hid (KR.out.ext hl)
  have VS := Lib.hid (VS.out.ext hl)
  have VT := Lib.hid (VT.out.ext hl)
  have KS := Lib.hid (KS.out.ext hl)
  have KT := Lib.hid (KT.out.ext hl)
  have VX := Lib.hid (VX.out.ext hl)
  have KX := Lib.hid (Blk.new0 x51 #[.bool nX, .slice aX qX cX] 24)
  clear hl
  generalize x51.alloc (.cells #[.bool nX, .slice aX qX cX] 24) = x52 at *
  generalize x51.heap.size = pX at *
  clear ca0 ca1 cb0 cb1
  have ca0 := Ka.out.cell (i := 0) (v := .bool na) rfl
  have ca1 := Ka.out.cell (i := 1) (v := .slice aa qa ca) rfl
  have cb0 := Kb.out.cell (i := 0) (v := .bool nb) rfl
  have cb1 := Kb.out.cell (i := 1) (v := .slice ab qb cb) rfl
  go_wp2_with fail
  with_reducible refine ((HG.out _ hx).2).mono ?_
  rintro e x53 ⟨v, rfl, hv, hy⟩
  have hv := hv
  have hx := hx.trans hy
  have Ka := Lib.hid (Ka.out.ext hy)
  have Kb := Lib.hid (Kb.out.ext hy)
  have VQ := Lib.hid (VQ.out.ext hy)
  have VR := Lib.hid (VR.out.ext hy)
  have KQ := Lib.hid (KQ.out.ext hy)
  have KR := Lib.hid (KR.out.ext hy)
  have VS := Lib.hid (VS.out.ext hy)
  have VT := Lib.hid (VT.out.ext hy)
  have KS := Lib.hid (KS.out.ext hy)
  have KT := Lib.hid (KT.out.ext hy)
  have VX := Lib.hid (VX.out.ext hy)
  have KX := Lib.hid (KX.out.ext hy)
  clear hy
  obtain ⟨nY, aY, qY, cY, rfl⟩ := hv.form
  have VY := Lib.hid hv
  clear hv
  go_upto_region 9 with fail
  have hl := Ext.alloc x53 (.cells #[.bool nY, .slice aY qY cY] 24)
  have hx := hx.trans hl
  have Ka := Lib.hid (Ka.out.ext hl)
  have Kb := Lib.hid (Kb.out.ext hl)
  have VQ := Lib.hid (VQ.out.ext hl)
  have VR := Lib.hid (VR.out.ext hl)
  have KQ := Lib.hid (KQ.out.ext hl)
  have KR := Lib.hid (KR.out.ext hl)
  have VS := Lib.hid (VS.out.ext hl)
  have VT := Lib.hid (VT.out.ext hl)
  have KS := Lib.hid (KS.out.ext hl)
  have KT := Lib.hid (KT.out.ext hl)
  have VX := Lib.hid (VX.out.ext hl)
  have KX := Lib.hid (KX.out.ext hl)
  have VY := Lib.hid (VY.out.ext hl)
  have KY := Lib.hid (Blk.new0 x53 #[.bool nY, .slice aY qY cY] 24)
  clear hl
  generalize x53.alloc (.cells #[.bool nY, .slice aY qY cY] 24) = x54 at *
  generalize x53.heap.size = pY at *
  clear ca0 ca1 cb0 cb1
  have cQ0 := KQ.out.cell (i := 0) (v := .bool nQ) rfl
  have cQ1 := KQ.out.cell (i := 1) (v := .slice aQ qQ cQ) rfl
  have cS0 := KS.out.cell (i := 0) (v := .bool nS) rfl
  have cS1 := KS.out.cell (i := 1) (v := .slice aS qS cS) rfl
  go_wp2_with fail
  with_reducible refine (sameT VQ.out VS.out rfl).mono ?_
  rintro e x55 ⟨rfl, hy⟩
  have hx := hx.trans hy
  have Ka := Lib.hid (Ka.out.ext hy)
  have Kb := Lib.hid (Kb.out.ext hy)
  have VQ := Lib.hid (VQ.out.ext hy)
  have VR := Lib.hid (VR.out.ext hy)
  have KQ := Lib.hid (KQ.out.ext hy)
  have KR := Lib.hid (KR.out.ext hy)
  have VS := Lib.hid (VS.out.ext hy)
  have VT := Lib.hid (VT.out.ext hy)
  have KS := Lib.hid (KS.out.ext hy)
  have KT := Lib.hid (KT.out.ext hy)
  have VX := Lib.hid (VX.out.ext hy)
  have KX := Lib.hid (KX.out.ext hy)
  have VY := Lib.hid (VY.out.ext hy)
  have KY := Lib.hid (KY.out.ext hy)
  clear hy
  clear cQ0 cQ1 cS0 cS1
  have cR0 := KR.out.cell (i := 0) (v := .bool nR) rfl
  have cR1 := KR.out.cell (i := 1) (v := .slice aR qR cR) rfl
  have cT0 := KT.out.cell (i := 0) (v := .bool nT) rfl
  have cT1 := KT.out.cell (i := 1) (v := .slice aT qT cT) rfl
  go_wp2_with fail
  with_reducible refine (sameT VR.out VT.out rfl).mono ?_
  rintro e x56 ⟨rfl, hy⟩
  have hx := hx.trans hy
  have Ka := Lib.hid (Ka.out.ext hy)
  have Kb := Lib.hid (Kb.out.ext hy)
  have VQ := Lib.hid (VQ.out.ext hy)
  have VR := Lib.hid (VR.out.ext hy)
  have KQ := Lib.hid (KQ.out.ext hy)
  have KR := Lib.hid (KR.out.ext hy)
  have VS := Lib.hid (VS.out.ext hy)
  have VT := Lib.hid (VT.out.ext hy)
  have KS := Lib.hid (KS.out.ext hy)
  have KT := Lib.hid (KT.out.ext hy)
  have VX := Lib.hid (VX.out.ext hy)
  have KX := Lib.hid (KX.out.ext hy)
  have VY := Lib.hid (VY.out.ext hy)
  have KY := Lib.hid (KY.out.ext hy)
  clear hy
  clear cR0 cR1 cT0 cT1
  have cX0 := KX.out.cell (i := 0) (v := .bool nX) rfl
  have cX1 := KX.out.cell (i := 1) (v := .slice aX qX cX) rfl
  have cY0 := KY.out.cell (i := 0) (v := .bool nY) rfl
  have cY1 := KY.out.cell (i := 1) (v := .slice aY qY cY) rfl
  go_wp2_with fail
  with_reducible refine (sameT VX.out VY.out rfl).mono ?_
  rintro e x57 ⟨rfl, hy⟩
  have hx := hx.trans hy
  have Ka := Lib.hid (Ka.out.ext hy)
  have Kb := Lib.hid (Kb.out.ext hy)
  have VQ := Lib.hid (VQ.out.ext hy)
  have VR := Lib.hid (VR.out.ext hy)
  have KQ := Lib.hid (KQ.out.ext hy)
  have KR := Lib.hid (KR.out.ext hy)
  have VS := Lib.hid (VS.out.ext hy)
  have VT := Lib.hid (VT.out.ext hy)
  have KS := Lib.hid (KS.out.ext hy)
  have KT := Lib.hid (KT.out.ext hy)
  have VX := Lib.hid (VX.out.ext hy)
  have KX := Lib.hid (KX.out.ext hy)
  have VY := Lib.hid (VY.out.ext hy)
  have KY := Lib.hid (KY.out.ext hy)
  clear hy
  clear cX0 cX1 cY0 cY1
  go_wp2_with fail
  with_reducible refine ((HC.out _ hx).1).mono ?_
  rintro e x58 ⟨v, rfl, hv, hy⟩
  have hv := hv
  have hx := hx.trans hy
  have Ka := Lib.hid (Ka.out.ext hy)
  have Kb := Lib.hid (Kb.out.ext hy)
  have VQ := Lib.hid (VQ.out.ext hy)
  have VR := Lib.hid (VR.out.ext hy)
  have KQ := Lib.hid (KQ.out.ext hy)
  have KR := Lib.hid (KR.out.ext hy)
  have VS := Lib.hid (VS.out.ext hy)
  have VT := Lib.hid (VT.out.ext hy)
  have KS := Lib.hid (KS.out.ext hy)
  have KT := Lib.hid (KT.out.ext hy)
  have VX := Lib.hid (VX.out.ext hy)
  have KX := Lib.hid (KX.out.ext hy)
  have VY := Lib.hid (VY.out.ext hy)
  have KY := Lib.hid (KY.out.ext hy)
  clear hy
  obtain ⟨nU, aU, qU, cU, rfl⟩ := hv.form
  have VU := Lib.hid hv
  clear hv
  go_upto_region 14 with fail
  have hl := Ext.alloc x58 (.cells #[.bool nU, .slice aU qU cU] 24)
  have hx := hx.trans hl
  have Ka := Lib.hid (Ka.out.ext hl)
  have Kb := Lib.hid (Kb.out.ext hl)
  have VQ := Lib.hid (VQ.out.ext hl)
  have VR := Lib.hid (VR.out.ext hl)
  have KQ := Lib.hid (KQ.out.ext hl)
  have KR := Lib.hid (KR.out.ext hl)
  have VS := Lib.hid (VS.out.ext hl)
  have VT := Lib.hid (VT.out.ext hl)
  have KS := Lib.hid (KS.out.ext hl)
  have KT := Lib.hid (KT.out.ext hl)
  have VX := Lib.hid (VX.out.ext hl)
  have KX := Lib.hid (KX.out.ext hl)
  have VY := Lib.hid (VY.out.ext hl)
  have KY := Lib.hid (KY.out.ext hl)
  have VU := Lib.hid (VU.out.ext hl)
  have KU := Lib.hid (Blk.new0 x58 #[.bool nU, .slice aU qU cU] 24)
  clear hl
  generalize x58.alloc (.cells #[.bool nU, .slice aU qU cU] 24) = x59 at *
  generalize x58.heap.size = pU at *
  go_wp2_with fail
  with_reducible refine ((HC.out _ hx).2).mono ?_
  rintro e x60 ⟨v, rfl, hv, hy⟩
  have hv := hv
  have hx := hx.trans hy
  have Ka := Lib.hid (Ka.out.ext hy)
  have Kb := Lib.hid (Kb.out.ext hy)
  have VQ := Lib.hid (VQ.out.ext hy)
  have VR := Lib.hid (VR.out.ext hy)
  have KQ := Lib.hid (KQ.out.ext hy)
  have KR := Lib.hid (KR.out.ext hy)
  have VS := Lib.hid (VS.out.ext hy)
  have VT := Lib.hid (VT.out.ext hy)
  have KS := Lib.hid (KS.out.ext hy)
  have KT := Lib.hid (KT.out.ext hy)
  have VX := Lib.hid (VX.out.ext hy)
  have KX := Lib.hid (KX.out.ext hy)
  have VY := Lib.hid (VY.out.ext hy)
  have KY := Lib.hid (KY.out.ext hy)
  have VU := Lib.hid (VU.out.ext hy)
  have KU := Lib.hid (KU.out.ext hy)
  clear hy
  obtain ⟨nV, aV, qV, cV, rfl⟩ := hv.form
  have VV := Lib.hid hv
  clear hv
  go_upto_region 15 with fail
  have hl := Ext.alloc x60 (.cells #[.bool nV, .slice aV qV cV] 24)
  have hx := hx.trans hl
  have Ka := Lib.hid (Ka.out.ext hl)
  have Kb := Lib.hid (Kb.out.ext hl)
  have VQ := Lib.hid (VQ.out.ext hl)
  have VR := Lib.hid (VR.out.ext hl)
  have KQ := Lib.hid (KQ.out.ext hl)
  have KR := Lib.hid (KR.out.ext hl)
  have VS := Lib.hid (VS.out.ext hl)
  have VT := Lib.hid (VT.out.ext hl)
  have KS := Lib.hid (KS.out.ext hl)
  have KT := Lib.hid (KT.out.ext hl)
  have VX := Lib.hid (VX.out.ext hl)
  have KX := Lib.hid (KX.out.ext hl)
  have VY := Lib.hid (VY.out.ext hl)
  have KY := Lib.hid (KY.out.ext hl)
  have VU := Lib.hid (VU.out.ext hl)
  have KU := Lib.hid (KU.out.ext hl)
  have VV := Lib.hid (VV.out.ext hl)
  have KV := Lib.hid (Blk.new0 x60 #[.bool nV, .slice aV qV cV] 24)
  clear hl
  generalize x60.alloc (.cells #[.bool nV, .slice aV qV cV] 24) = x61 at *
  generalize x60.heap.size = pV at *
  have cU0 := KU.out.cell (i := 0) (v := .bool nU) rfl
  have cU1 := KU.out.cell (i := 1) (v := .slice aU qU cU) rfl
  have cV0 := KV.out.cell (i := 0) (v := .bool nV) rfl
  have cV1 := KV.out.cell (i := 1) (v := .slice aV qV cV) rfl
  go_wp2_with fail
  with_reducible refine (sameT VU.out VV.out rfl).mono ?_
  rintro e x62 ⟨rfl, hy⟩
  have hx := hx.trans hy
  have Ka := Lib.hid (Ka.out.ext hy)
  have Kb := Lib.hid (Kb.out.ext hy)
  have VQ := Lib.hid (VQ.out.ext hy)
  have VR := Lib.hid (VR.out.ext hy)
  have KQ := Lib.hid (KQ.out.ext hy)
  have KR := Lib.hid (KR.out.ext hy)
  have VS := Lib.hid (VS.out.ext hy)
  have VT := Lib.hid (VT.out.ext hy)
  have KS := Lib.hid (KS.out.ext hy)
  have KT := Lib.hid (KT.out.ext hy)
  have VX := Lib.hid (VX.out.ext hy)
  have KX := Lib.hid (KX.out.ext hy)
  have VY := Lib.hid (VY.out.ext hy)
  have KY := Lib.hid (KY.out.ext hy)
  have VU := Lib.hid (VU.out.ext hy)
  have KU := Lib.hid (KU.out.ext hy)
  have VV := Lib.hid (VV.out.ext hy)
  have KV := Lib.hid (KV.out.ext hy)
  clear hy
  clear cU0 cU1 cV0 cV1
  go_wp2_with fail
  go_ret
  exact ⟨rfl, hx⟩
theorem law_Div (na nb : Bool) (aa ab : Option Addr) (ca cb : Nat) (l m : List Int) (n k : Int) (w : World) (ha : Ints w aa ca l) (hb : Ints w ab cb m) :
    Calls Tryd.prog 3 #[.agg #[.bool na, .slice aa l.length ca], .agg #[.bool nb, .slice ab m.length cb], .int .i64 n, .int .i64 k] w fun e w' => e = .returned (.bool true) ∧ Ext w w' := by
  cases h1 : fewN l.length
  · exact law_Div0 na nb aa ab _ _ ca cb l m n k w ha hb rfl rfl h1
  · cases h2 : fewN m.length
    · exact law_Div1 na nb aa ab _ _ ca cb l m n k w ha hb rfl rfl ⟨h1, h2⟩
    · by_cases h3 : n ≤ 100
      · exact law_Div3 na nb aa ab _ _ ca cb l m n k w ha hb rfl rfl ⟨h1, h2, h3⟩
      · by_cases h4 : n ≤ 4096
        · exact law_Div2 na nb aa ab _ _ ca cb l m n k w ha hb rfl rfl ⟨h1, h2, by omega, h4⟩
        · exact law_Div4 na nb aa ab _ _ ca cb l m n k w ha hb rfl rfl ⟨h1, h2, by omega⟩
end Go.Proofs.YtpaaanbcadlhiaaDoor
