import Derived.Test.YtpaaanbcadlhiaaDoorPLaw0
namespace Go.Proofs.YtpaaanbcadlhiaaDoor
open Go.RowKit Go BigFrame
set_option maxRecDepth 100000
set_option linter.unusedSimpArgs false
set_option linter.unusedVariables false

set_option maxHeartbeats 8000000 in
theorem law_Sum0 (na nb : Bool) (aa ab : Option Addr) (qa qb ca cb : Nat) (l m : List Int) (w : World) (ha : Ints w aa ca l) (hb : Ints w ab cb m) (la : l.length = qa) (lb : m.length = qb) (hf : fewN qa = false) :
    Calls Tryd.prog 9 #[.agg #[.bool na, .slice aa qa ca], .agg #[.bool nb, .slice ab qb cb]] w fun e w' => e = .returned (.bool true) ∧ Ext w w' := by
  have FA := Lib.hid (fun W => ref_Few na aa ca l W)
  have FB := Lib.hid (fun W => ref_Few nb ab cb m W)
  rw [la] at FA
  rw [lb] at FB
  rw [hf] at FA
  clear hf la lb ha hb
  have hx : Ext w (((w).alloc (.cells #[.bool na, .slice aa qa ca] 24)).alloc (.cells #[.bool nb, .slice ab qb cb] 24)) := (by repeat (first | with_reducible exact Ext.refl _ | with_reducible assumption | with_reducible refine Ext.drewN ?_ _ | with_reducible refine Ext.drew ?_ | with_reducible refine Ext.alloc' ?_ _ | with_reducible refine Ext.set ?_ (by dsimp only; omega) _))
  have Ka : Blk (((w).alloc (.cells #[.bool na, .slice aa qa ca] 24)).alloc (.cells #[.bool nb, .slice ab qb cb] 24)) (w.heap.size) #[.bool na, .slice aa qa ca] 24 := by have h := (Blk.new0 (w) #[.bool na, .slice aa qa ca] 24).alloc (.cells #[.bool nb, .slice ab qb cb] 24); simpa [Nat.add_assoc] using h
  have Ka := Lib.hid Ka
  have Kb : Blk (((w).alloc (.cells #[.bool na, .slice aa qa ca] 24)).alloc (.cells #[.bool nb, .slice ab qb cb] 24)) (w.heap.size + 1) #[.bool nb, .slice ab qb cb] 24 := by have h := Blk.new0 ((w).alloc (.cells #[.bool na, .slice aa qa ca] 24)) #[.bool nb, .slice ab qb cb] 24; simpa [Nat.add_assoc] using h
  have Kb := Lib.hid Kb
  go_enter Tryd.func9, Tryd.ntmps9
  go_upto_region 1 with fail
  try simp only [Nat.add_assoc, Nat.reduceAdd, Nat.add_zero]
  generalize ((w).alloc (.cells #[.bool na, .slice aa qa ca] 24)).alloc (.cells #[.bool nb, .slice ab qb cb] 24) = x1 at *
  go_wp2_with fail
  with_reducible refine (law09Sane _).mono ?_
  rintro e x2 ⟨rfl, hy⟩
  have hx := hx.trans hy
  have Ka := Lib.hid (Ka.out.ext hy)
  have Kb := Lib.hid (Kb.out.ext hy)
  clear hy
  have ca0 := Ka.out.cell (i := 0) (v := .bool na) rfl
  have ca1 := Ka.out.cell (i := 1) (v := .slice aa qa ca) rfl
  go_wp2_with fail
  with_reducible refine (FA.out _).mono ?_
  rintro e x3 ⟨rfl, hy⟩
  have hx := hx.trans hy
  have Ka := Lib.hid (Ka.out.ext hy)
  have Kb := Lib.hid (Kb.out.ext hy)
  clear hy
  clear ca0 ca1
  go_wp2_with fail
  go_ret
  exact ⟨rfl, hx⟩
set_option maxHeartbeats 8000000 in
theorem law_Sum1 (na nb : Bool) (aa ab : Option Addr) (qa qb ca cb : Nat) (l m : List Int) (w : World) (ha : Ints w aa ca l) (hb : Ints w ab cb m) (la : l.length = qa) (lb : m.length = qb) (hf : fewN qa = true ∧ fewN qb = false) :
    Calls Tryd.prog 9 #[.agg #[.bool na, .slice aa qa ca], .agg #[.bool nb, .slice ab qb cb]] w fun e w' => e = .returned (.bool true) ∧ Ext w w' := by
  have FA := Lib.hid (fun W => ref_Few na aa ca l W)
  have FB := Lib.hid (fun W => ref_Few nb ab cb m W)
  rw [la] at FA
  rw [lb] at FB
  rw [hf.1] at FA
  rw [hf.2] at FB
  clear hf la lb ha hb
  have hx : Ext w (((w).alloc (.cells #[.bool na, .slice aa qa ca] 24)).alloc (.cells #[.bool nb, .slice ab qb cb] 24)) := (by repeat (first | with_reducible exact Ext.refl _ | with_reducible assumption | with_reducible refine Ext.drewN ?_ _ | with_reducible refine Ext.drew ?_ | with_reducible refine Ext.alloc' ?_ _ | with_reducible refine Ext.set ?_ (by dsimp only; omega) _))
  have Ka : Blk (((w).alloc (.cells #[.bool na, .slice aa qa ca] 24)).alloc (.cells #[.bool nb, .slice ab qb cb] 24)) (w.heap.size) #[.bool na, .slice aa qa ca] 24 := by have h := (Blk.new0 (w) #[.bool na, .slice aa qa ca] 24).alloc (.cells #[.bool nb, .slice ab qb cb] 24); simpa [Nat.add_assoc] using h
  have Ka := Lib.hid Ka
  have Kb : Blk (((w).alloc (.cells #[.bool na, .slice aa qa ca] 24)).alloc (.cells #[.bool nb, .slice ab qb cb] 24)) (w.heap.size + 1) #[.bool nb, .slice ab qb cb] 24 := by have h := Blk.new0 ((w).alloc (.cells #[.bool na, .slice aa qa ca] 24)) #[.bool nb, .slice ab qb cb] 24; simpa [Nat.add_assoc] using h
  have Kb := Lib.hid Kb
  go_enter Tryd.func9, Tryd.ntmps9
  go_upto_region 1 with fail
  try simp only [Nat.add_assoc, Nat.reduceAdd, Nat.add_zero]
  generalize ((w).alloc (.cells #[.bool na, .slice aa qa ca] 24)).alloc (.cells #[.bool nb, .slice ab qb cb] 24) = x4 at *
  go_wp2_with fail
  with_reducible refine (law09Sane _).mono ?_
  rintro e x5 ⟨rfl, hy⟩
  have hx := hx.trans hy
  have Ka := Lib.hid (Ka.out.ext hy)
  have Kb := Lib.hid (Kb.out.ext hy)
  clear hy
  have ca0 := Ka.out.cell (i := 0) (v := .bool na) rfl
  have ca1 := Ka.out.cell (i := 1) (v := .slice aa qa ca) rfl
  go_wp2_with fail
  with_reducible refine (FA.out _).mono ?_
  rintro e x6 ⟨rfl, hy⟩
  have hx := hx.trans hy
  have Ka := Lib.hid (Ka.out.ext hy)
  have Kb := Lib.hid (Kb.out.ext hy)
  clear hy
  clear ca0 ca1
  have cb0 := Kb.out.cell (i := 0) (v := .bool nb) rfl
  have cb1 := Kb.out.cell (i := 1) (v := .slice ab qb cb) rfl
  go_wp2_with fail
  with_reducible refine (FB.out _).mono ?_
  rintro e x7 ⟨rfl, hy⟩
  have hx := hx.trans hy
  have Ka := Lib.hid (Ka.out.ext hy)
  have Kb := Lib.hid (Kb.out.ext hy)
  clear hy
  go_wp2_with fail
  go_ret
  exact ⟨rfl, hx⟩
set_option maxHeartbeats 8000000 in
theorem law_Sum2 (na nb : Bool) (aa ab : Option Addr) (qa qb ca cb : Nat) (l m : List Int) (w : World) (ha : Ints w aa ca l) (hb : Ints w ab cb m) (la : l.length = qa) (lb : m.length = qb) (hf : fewN qa = true ∧ fewN qb = true) :
    Calls Tryd.prog 9 #[.agg #[.bool na, .slice aa qa ca], .agg #[.bool nb, .slice ab qb cb]] w fun e w' => e = .returned (.bool true) ∧ Ext w w' := by
  have FA := Lib.hid (fun W => ref_Few na aa ca l W)
  have FB := Lib.hid (fun W => ref_Few nb ab cb m W)
  rw [la] at FA
  rw [lb] at FB
  have f1 : fewN l.length = true := by rw [la]; exact hf.1
  have f2 : fewN m.length = true := by rw [lb]; exact hf.2
  obtain ⟨zAdd, EAdd, hAdd⟩ := both_Add (n1 := na) (n2 := nb) ha hb f1 f2
  rw [la, lb] at hAdd
  have HAdd := Lib.hid hAdd
  clear hAdd
  obtain ⟨zSub, ESub, hSub⟩ := both_Sub (n1 := na) (n2 := nb) ha hb f1 f2
  rw [la, lb] at hSub
  have HSub := Lib.hid hSub
  clear hSub
  obtain ⟨zMul, EMul, hMul⟩ := both_Mul (n1 := na) (n2 := nb) ha hb f1 f2
  rw [la, lb] at hMul
  have HMul := Lib.hid hMul
  clear hMul
  rw [hf.1] at FA
  rw [hf.2] at FB
  clear f1 f2
  clear hf la lb ha hb
  have hx : Ext w (((w).alloc (.cells #[.bool na, .slice aa qa ca] 24)).alloc (.cells #[.bool nb, .slice ab qb cb] 24)) := (by repeat (first | with_reducible exact Ext.refl _ | with_reducible assumption | with_reducible refine Ext.drewN ?_ _ | with_reducible refine Ext.drew ?_ | with_reducible refine Ext.alloc' ?_ _ | with_reducible refine Ext.set ?_ (by dsimp only; omega) _))
  have Ka : Blk (((w).alloc (.cells #[.bool na, .slice aa qa ca] 24)).alloc (.cells #[.bool nb, .slice ab qb cb] 24)) (w.heap.size) #[.bool na, .slice aa qa ca] 24 := by have h := (Blk.new0 (w) #[.bool na, .slice aa qa ca] 24).alloc (.cells #[.bool nb, .slice ab qb cb] 24); simpa [Nat.add_assoc] using h
  have Ka := Lib.hid Ka
  have Kb : Blk (((w).alloc (.cells #[.bool na, .slice aa qa ca] 24)).alloc (.cells #[.bool nb, .slice ab qb cb] 24)) (w.heap.size + 1) #[.bool nb, .slice ab qb cb] 24 := by have h := Blk.new0 ((w).alloc (.cells #[.bool na, .slice aa qa ca] 24)) #[.bool nb, .slice ab qb cb] 24; simpa [Nat.add_assoc] using h
  have Kb := Lib.hid Kb
  go_enter Tryd.func9, Tryd.ntmps9
  go_upto_region 1 with fail
  try simp only [Nat.add_assoc, Nat.reduceAdd, Nat.add_zero]
  generalize ((w).alloc (.cells #[.bool na, .slice aa qa ca] 24)).alloc (.cells #[.bool nb, .slice ab qb cb] 24) = x8 at *
  go_wp2_with fail
  with_reducible refine (law09Sane _).mono ?_
  rintro e x9 ⟨rfl, hy⟩
  have hx := hx.trans hy
  have Ka := Lib.hid (Ka.out.ext hy)
  have Kb := Lib.hid (Kb.out.ext hy)
  clear hy
  have ca0 := Ka.out.cell (i := 0) (v := .bool na) rfl
  have ca1 := Ka.out.cell (i := 1) (v := .slice aa qa ca) rfl
  go_wp2_with fail
  with_reducible refine (FA.out _).mono ?_
  rintro e x10 ⟨rfl, hy⟩
  have hx := hx.trans hy
  have Ka := Lib.hid (Ka.out.ext hy)
  have Kb := Lib.hid (Kb.out.ext hy)
  clear hy
  clear ca0 ca1
  have cb0 := Kb.out.cell (i := 0) (v := .bool nb) rfl
  have cb1 := Kb.out.cell (i := 1) (v := .slice ab qb cb) rfl
  go_wp2_with fail
  with_reducible refine (FB.out _).mono ?_
  rintro e x11 ⟨rfl, hy⟩
  have hx := hx.trans hy
  have Ka := Lib.hid (Ka.out.ext hy)
  have Kb := Lib.hid (Kb.out.ext hy)
  clear hy
  clear cb0 cb1
  have ca0 := Ka.out.cell (i := 0) (v := .bool na) rfl
  have ca1 := Ka.out.cell (i := 1) (v := .slice aa qa ca) rfl
  have cb0 := Kb.out.cell (i := 0) (v := .bool nb) rfl
  have cb1 := Kb.out.cell (i := 1) (v := .slice ab qb cb) rfl
  go_wp2_with fail
  with_reducible refine ((HAdd.out _ hx).1).mono ?_
  rintro e x12 ⟨v, rfl, hv, hy⟩
  have hv := hv
  have hx := hx.trans hy
  have Ka := Lib.hid (Ka.out.ext hy)
  have Kb := Lib.hid (Kb.out.ext hy)
  clear hy
  obtain ⟨nA, aA, qA, cA, rfl⟩ := hv.form
  have VA := Lib.hid hv
  clear hv
  go_upto_region 6 with fail
  have hl := Ext.alloc x12 (.cells #[.bool nA, .slice aA qA cA] 24)
  have hx := hx.trans hl
  have Ka := Lib.hid (Ka.out.ext hl)
  have Kb := Lib.hid (Kb.out.ext hl)
  have VA := Lib.hid (VA.out.ext hl)
  have KA := Lib.hid (Blk.new0 x12 #[.bool nA, .slice aA qA cA] 24)
  clear hl
  generalize x12.alloc (.cells #[.bool nA, .slice aA qA cA] 24) = x13 at *
  generalize x12.heap.size = pA at *
  clear ca0 ca1 cb0 cb1
  have ca0 := Ka.out.cell (i := 0) (v := .bool na) rfl
  have ca1 := Ka.out.cell (i := 1) (v := .slice aa qa ca) rfl
  have cb0 := Kb.out.cell (i := 0) (v := .bool nb) rfl
  have cb1 := Kb.out.cell (i := 1) (v := .slice ab qb cb) rfl
  go_wp2_with fail
  with_reducible refine ((HAdd.out _ hx).2).mono ?_
  rintro e x14 ⟨v, rfl, hv, hy⟩
  have hv := hv
  have hx := hx.trans hy
  have Ka := Lib.hid (Ka.out.ext hy)
  have Kb := Lib.hid (Kb.out.ext hy)
  have VA := Lib.hid (VA.out.ext hy)
  have KA := Lib.hid (KA.out.ext hy)
  clear hy
  obtain ⟨nrA, arA, qrA, crA, rfl⟩ := hv.form
  have VrA := Lib.hid hv
  clear hv
  go_upto_region 7 with fail
  have hl := Ext.alloc x14 (.cells #[.bool nrA, .slice arA qrA crA] 24)
  have hx := hx.trans hl
  have Ka := Lib.hid (Ka.out.ext hl)
  have Kb := Lib.hid (Kb.out.ext hl)
  have VA := Lib.hid (VA.out.ext hl)
  have KA := Lib.hid (KA.out.ext hl)
  have VrA := Lib.hid (VrA.out.ext hl)
  have KrA := Lib.hid (Blk.new0 x14 #[.bool nrA, .slice arA qrA crA] 24)
  clear hl
  generalize x14.alloc (.cells #[.bool nrA, .slice arA qrA crA] 24) = x15 at *
  generalize x14.heap.size = prA at *
  clear ca0 ca1 cb0 cb1
  have ca0 := Ka.out.cell (i := 0) (v := .bool na) rfl
  have ca1 := Ka.out.cell (i := 1) (v := .slice aa qa ca) rfl
  have cb0 := Kb.out.cell (i := 0) (v := .bool nb) rfl
  have cb1 := Kb.out.cell (i := 1) (v := .slice ab qb cb) rfl
  go_wp2_with fail
  with_reducible refine ((HSub.out _ hx).1).mono ?_
  rintro e x16 ⟨v, rfl, hv, hy⟩
  have hv := hv
  have hx := hx.trans hy
  have Ka := Lib.hid (Ka.out.ext hy)
  have Kb := Lib.hid (Kb.out.ext hy)
  have VA := Lib.hid (VA.out.ext hy)
  have KA := Lib.hid (KA.out.ext hy)
  have VrA := Lib.hid (VrA.out.ext hy)
  have KrA := Lib.hid (KrA.out.ext hy)
  clear hy
  obtain ⟨nS, aS, qS, cS, rfl⟩ := hv.form
  have VS := Lib.hid hv
  clear hv
  go_upto_region 8 with fail
  have hl := Ext.alloc x16 (.cells #[.bool nS, .slice aS qS cS] 24)
  have hx := hx.trans hl
  have Ka := Lib.hid (Ka.out.ext hl)
  have Kb := Lib.hid (Kb.out.ext hl)
  have VA := Lib.hid (VA.out.ext hl)
  have KA := Lib.hid (KA.out.ext hl)
  have VrA := Lib.hid (VrA.out.ext hl)
  have KrA := Lib.hid (KrA.out.ext hl)
  have VS := Lib.hid (VS.out.ext hl)
  have KS := Lib.hid (Blk.new0 x16 #[.bool nS, .slice aS qS cS] 24)
  clear hl
  generalize x16.alloc (.cells #[.bool nS, .slice aS qS cS] 24) = x17 at *
  generalize x16.heap.size = pS at *
  clear ca0 ca1 cb0 cb1
  have ca0 := Ka.out.cell (i := 0) (v := .bool na) rfl
  have ca1 := Ka.out.cell (i := 1) (v := .slice aa qa ca) rfl
  have cb0 := Kb.out.cell (i := 0) (v := .bool nb) rfl
  have cb1 := Kb.out.cell (i := 1) (v := .slice ab qb cb) rfl
  go_wp2_with fail
  with_reducible refine ((HSub.out _ hx).2).mono ?_
  rintro e x18 ⟨v, rfl, hv, hy⟩
  have hv := hv
  have hx := hx.trans hy
  have Ka := Lib.hid (Ka.out.ext hy)
  have Kb := Lib.hid (Kb.out.ext hy)
  have VA := Lib.hid (VA.out.ext hy)
  have KA := Lib.hid (KA.out.ext hy)
  have VrA := Lib.hid (VrA.out.ext hy)
  have KrA := Lib.hid (KrA.out.ext hy)
  have VS := Lib.hid (VS.out.ext hy)
  have KS := Lib.hid (KS.out.ext hy)
  clear hy
  obtain ⟨nrS, arS, qrS, crS, rfl⟩ := hv.form
  have VrS := Lib.hid hv
  clear hv
  go_upto_region 9 with fail
  have hl := Ext.alloc x18 (.cells #[.bool nrS, .slice arS qrS crS] 24)
  have hx := hx.trans hl
  have Ka := Lib.hid (Ka.out.ext hl)
  have Kb := Lib.hid (Kb.out.ext hl)
  have VA := Lib.hid (VA.out.ext hl)
  have KA := Lib.hid (KA.out.ext hl)
  have VrA := Lib.hid (VrA.out.ext hl)
  have KrA := Lib.hid (KrA.out.ext hl)
  have VS := Lib.hid (VS.out.ext hl)
  have KS := Lib.hid (KS.out.ext hl)
  have VrS := Lib.hid (VrS.out.ext hl)
  have KrS := Lib.hid (Blk.new0 x18 #[.bool nrS, .slice arS qrS crS] 24)
  clear hl
  generalize x18.alloc (.cells #[.bool nrS, .slice arS qrS crS] 24) = x19 at *
  generalize x18.heap.size = prS at *
  clear ca0 ca1 cb0 cb1
  have ca0 := Ka.out.cell (i := 0) (v := .bool na) rfl
  have ca1 := Ka.out.cell (i := 1) (v := .slice aa qa ca) rfl
  have cb0 := Kb.out.cell (i := 0) (v := .bool nb) rfl
  have cb1 := Kb.out.cell (i := 1) (v := .slice ab qb cb) rfl
  go_wp2_with fail
  with_reducible refine ((HMul.out _ hx).1).mono ?_
  rintro e x20 ⟨v, rfl, hv, hy⟩
  have hv := hv
  have hx := hx.trans hy
  have Ka := Lib.hid (Ka.out.ext hy)
  have Kb := Lib.hid (Kb.out.ext hy)
  have VA := Lib.hid (VA.out.ext hy)
  have KA := Lib.hid (KA.out.ext hy)
  have VrA := Lib.hid (VrA.out.ext hy)
  have KrA := Lib.hid (KrA.out.ext hy)
  have VS := Lib.hid (VS.out.ext hy)
  have KS := Lib.hid (KS.out.ext hy)
  have VrS := Lib.hid (VrS.out.ext hy)
  have KrS := Lib.hid (KrS.out.ext hy)
  clear hy
  obtain ⟨nM, aM, qM, cM, rfl⟩ := hv.form
  have VM := Lib.hid hv
  clear hv
  go_upto_region 10 with fail
  have hl := Ext.alloc x20 (.cells #[.bool nM, .slice aM qM cM] 24)
  have hx := hx.trans hl
  have Ka := Lib.hid (Ka.out.ext hl)
  have Kb := Lib.hid (Kb.out.ext hl)
  have VA := Lib.hid (VA.out.ext hl)
  have KA := Lib.hid (KA.out.ext hl)
  have VrA := Lib.hid (VrA.out.ext hl)
  have KrA := Lib.hid (KrA.out.ext hl)
  have VS := Lib.hid (VS.out.ext hl)
  have KS := Lib.hid (KS.out.ext hl)
  have VrS := Lib.hid (VrS.out.ext hl)
  have KrS := Lib.hid (KrS.out.ext hl)
  have VM := Lib.hid (VM.out.ext hl)
  have KM := Lib.hid (Blk.new0 x20 #[.bool nM, .slice aM qM cM] 24)
  clear hl
  generalize x20.alloc (.cells #[.bool nM, .slice aM qM cM] 24) = x21 at *
  generalize x20.heap.size = pM at *
  clear ca0 ca1 cb0 cb1
  have ca0 := Ka.out.cell (i := 0) (v := .bool na) rfl
  have ca1 := Ka.out.cell (i := 1) (v := .slice aa qa ca) rfl
  have cb0 := Kb.out.cell (i := 0) (v := .bool nb) rfl
  have cb1 := Kb.out.cell (i := 1) (v := .slice ab qb cb) rfl
  go_wp2_with fail
  with_reducible refine ((HMul.out _ hx).2).mono ?_
  rintro e x22 ⟨v, rfl, hv, hy⟩
  have hv := hv
  have hx := hx.trans hy
  have Ka := Lib.hid (Ka.out.ext hy)
  have Kb := Lib.hid (Kb.out.ext hy)
  have VA := Lib.hid (VA.out.ext hy)
  have KA := Lib.hid (KA.out.ext hy)
  have VrA := Lib.hid (VrA.out.ext hy)
  have KrA := Lib.hid (KrA.out.ext hy)
  have VS := Lib.hid (VS.out.ext hy)
  have KS := Lib.hid (KS.out.ext hy)
  have VrS := Lib.hid (VrS.out.ext hy)
  have KrS := Lib.hid (KrS.out.ext hy)
  have VM := Lib.hid (VM.out.ext hy)
  have KM := Lib.hid (KM.out.ext hy)
  clear hy
  obtain ⟨nrM, arM, qrM, crM, rfl⟩ := hv.form
  have VrM := Lib.hid hv
  clear hv
  go_upto_region 11 with fail
  have hl := Ext.alloc x22 (.cells #[.bool nrM, .slice arM qrM crM] 24)
  have hx := hx.trans hl
  have Ka := Lib.hid (Ka.out.ext hl)
  have Kb := Lib.hid (Kb.out.ext hl)
  have VA := Lib.hid (VA.out.ext hl)
  have KA := Lib.hid (KA.out.ext hl)
  have VrA := Lib.hid (VrA.out.ext hl)
  have KrA := Lib.hid (KrA.out.ext hl)
  have VS := Lib.hid (VS.out.ext hl)
  have KS := Lib.hid (KS.out.ext hl)
  have VrS := Lib.hid (VrS.out.ext hl)
  have KrS := Lib.hid (KrS.out.ext hl)
  have VM := Lib.hid (VM.out.ext hl)
  have KM := Lib.hid (KM.out.ext hl)
  have VrM := Lib.hid (VrM.out.ext hl)
  have KrM := Lib.hid (Blk.new0 x22 #[.bool nrM, .slice arM qrM crM] 24)
  clear hl
  generalize x22.alloc (.cells #[.bool nrM, .slice arM qrM crM] 24) = x23 at *
  generalize x22.heap.size = prM at *
  clear ca0 ca1 cb0 cb1
  have cA0 := KA.out.cell (i := 0) (v := .bool nA) rfl
  have cA1 := KA.out.cell (i := 1) (v := .slice aA qA cA) rfl
  have crA0 := KrA.out.cell (i := 0) (v := .bool nrA) rfl
  have crA1 := KrA.out.cell (i := 1) (v := .slice arA qrA crA) rfl
  go_wp2_with fail
  with_reducible refine (sameT VA.out VrA.out rfl).mono ?_
  rintro e x24 ⟨rfl, hy⟩
  have hx := hx.trans hy
  have Ka := Lib.hid (Ka.out.ext hy)
  have Kb := Lib.hid (Kb.out.ext hy)
  have VA := Lib.hid (VA.out.ext hy)
  have KA := Lib.hid (KA.out.ext hy)
  have VrA := Lib.hid (VrA.out.ext hy)
  have KrA := Lib.hid (KrA.out.ext hy)
  have VS := Lib.hid (VS.out.ext hy)
  have KS := Lib.hid (KS.out.ext hy)
  have VrS := Lib.hid (VrS.out.ext hy)
  have KrS := Lib.hid (KrS.out.ext hy)
  have VM := Lib.hid (VM.out.ext hy)
  have KM := Lib.hid (KM.out.ext hy)
  have VrM := Lib.hid (VrM.out.ext hy)
  have KrM := Lib.hid (KrM.out.ext hy)
  clear hy
  clear cA0 cA1 crA0 crA1
  have cS0 := KS.out.cell (i := 0) (v := .bool nS) rfl
  have cS1 := KS.out.cell (i := 1) (v := .slice aS qS cS) rfl
  have crS0 := KrS.out.cell (i := 0) (v := .bool nrS) rfl
  have crS1 := KrS.out.cell (i := 1) (v := .slice arS qrS crS) rfl
  go_wp2_with fail
  with_reducible refine (sameT VS.out VrS.out rfl).mono ?_
  rintro e x25 ⟨rfl, hy⟩
  have hx := hx.trans hy
  have Ka := Lib.hid (Ka.out.ext hy)
  have Kb := Lib.hid (Kb.out.ext hy)
  have VA := Lib.hid (VA.out.ext hy)
  have KA := Lib.hid (KA.out.ext hy)
  have VrA := Lib.hid (VrA.out.ext hy)
  have KrA := Lib.hid (KrA.out.ext hy)
  have VS := Lib.hid (VS.out.ext hy)
  have KS := Lib.hid (KS.out.ext hy)
  have VrS := Lib.hid (VrS.out.ext hy)
  have KrS := Lib.hid (KrS.out.ext hy)
  have VM := Lib.hid (VM.out.ext hy)
  have KM := Lib.hid (KM.out.ext hy)
  have VrM := Lib.hid (VrM.out.ext hy)
  have KrM := Lib.hid (KrM.out.ext hy)
  clear hy
  clear cS0 cS1 crS0 crS1
  have cM0 := KM.out.cell (i := 0) (v := .bool nM) rfl
  have cM1 := KM.out.cell (i := 1) (v := .slice aM qM cM) rfl
  have crM0 := KrM.out.cell (i := 0) (v := .bool nrM) rfl
  have crM1 := KrM.out.cell (i := 1) (v := .slice arM qrM crM) rfl
  go_wp2_with fail
  with_reducible refine (sameT VM.out VrM.out rfl).mono ?_
  rintro e x26 ⟨rfl, hy⟩
  have hx := hx.trans hy
  have Ka := Lib.hid (Ka.out.ext hy)
  have Kb := Lib.hid (Kb.out.ext hy)
  have VA := Lib.hid (VA.out.ext hy)
  have KA := Lib.hid (KA.out.ext hy)
  have VrA := Lib.hid (VrA.out.ext hy)
  have KrA := Lib.hid (KrA.out.ext hy)
  have VS := Lib.hid (VS.out.ext hy)
  have KS := Lib.hid (KS.out.ext hy)
  have VrS := Lib.hid (VrS.out.ext hy)
  have KrS := Lib.hid (KrS.out.ext hy)
  have VM := Lib.hid (VM.out.ext hy)
  have KM := Lib.hid (KM.out.ext hy)
  have VrM := Lib.hid (VrM.out.ext hy)
  have KrM := Lib.hid (KrM.out.ext hy)
  clear hy
  clear cM0 cM1 crM0 crM1
  go_wp2_with fail
  go_ret
  exact ⟨rfl, hx⟩
theorem law_Sum (na nb : Bool) (aa ab : Option Addr) (ca cb : Nat) (l m : List Int) (w : World) (ha : Ints w aa ca l) (hb : Ints w ab cb m) :
    Calls Tryd.prog 9 #[.agg #[.bool na, .slice aa l.length ca], .agg #[.bool nb, .slice ab m.length cb]] w fun e w' => e = .returned (.bool true) ∧ Ext w w' := by
  cases h1 : fewN l.length
  · exact law_Sum0 na nb aa ab _ _ ca cb l m w ha hb rfl rfl h1
  · cases h2 : fewN m.length
    · exact law_Sum1 na nb aa ab _ _ ca cb l m w ha hb rfl rfl ⟨h1, h2⟩
    · exact law_Sum2 na nb aa ab _ _ ca cb l m w ha hb rfl rfl ⟨h1, h2⟩
end Go.Proofs.YtpaaanbcadlhiaaDoor
