import Derived.Test.YtpaaanbcadlhiaaDoorPLaw0
import Derived.Test.YtpaaanbcadlhiaaDoorPTxt1
import Derived.Deep.DeepCutAuto
namespace Go.Proofs.YtpaaanbcadlhiaaDoor
open Go.RowKit Go BigFrame
set_option maxRecDepth 100000
set_option linter.unusedSimpArgs false
set_option linter.unusedVariables false

theorem int_of_make {v : Value} {n : Int} {w : World} (hv : BigV w v n) (hn : -9223372036854775808 ≤ n ∧ n ≤ 9223372036854775807) : Calls Tryd.prog 25 #[v] w (IntP n true 0 w) := by
  have hp : n.natAbs < 1073741824 ^ 3 := by
    have h3 : (1073741824 : Nat) ^ 3 = 1237940039285380274899124224 := by decide
    omega
  have h := int_val hv (Nat.le_trans (len_powN (n := 3) hp) (by omega))
  rw [(fit_yes hn.1 hn.2).1, (fit_yes hn.1 hn.2).2] at h
  exact h
theorem check_val {v : Value} {z : Int} {w : World} (hv : BigV w v z) (hz : Len z) : Calls Tryd.prog 27 #[v] w fun e w' => e = .returned (.int .i64 0) ∧ Ext w w' := by
  obtain ⟨n1, l, ⟨a, ca, rfl, hi⟩, hb⟩ := hv
  have h := nat_Check n1 a ca l w hi
  rw [hb.chk hz] at h
  exact h
theorem bigRow2 {W : World} {g : Nat} {na nb : Bool} {aa ab : Option Addr} {ca cb : Nat} {l m : List Int} {t : TypeId} (h : Blk W g #[.bool na, .slice aa l.length ca, .bool nb, .slice ab m.length cb] t) (ha : Ints W aa ca l) (hb : Ints W ab cb m) :
    BigRow W g [⟨na, aa, ca, l⟩, ⟨nb, ab, cb, m⟩] where
  c0 := fun i hi => by
    match i, hi with
    | 0, _ => exact h.cell rfl
    | 1, _ => exact h.cell rfl
  c1 := fun i hi => by
    match i, hi with
    | 0, _ => exact h.cell rfl
    | 1, _ => exact h.cell rfl
  i := fun i hi => by
    match i, hi with
    | 0, _ => exact ha
    | 1, _ => exact hb
theorem okA_z {x : BigA} (h : okA x = true) : Big x.n x.l (sgn x.n (dval x.l)) ∧ (digs (sgn x.n (dval x.l)).natAbs).length ≤ 12 := by
  unfold okA at h
  obtain ⟨h1, h2⟩ := (Bool.and_eq_true _ _).mp h
  have hb := (of_chk h2).1
  refine ⟨hb, ?_⟩
  rw [← hb.digs]
  simpa using h1
theorem ref_Same_gen {x y : Value} {z z2 : Int} {w : World} (h : BigV w x z) (h2 : BigV w y z2) : Calls Tryd.prog 18 #[x, y] w fun e w' => e = .returned (.bool (decide (z = z2))) ∧ Ext w w' := ref_Same_val h h2
theorem str_eq {s t : ByteArray} : (s.toList == t.toList) = decide (s.data.toList = t.data.toList) := by
  rw [Lib.toList_data, Lib.toList_data]
  by_cases h : s.data.toList = t.data.toList
  · rw [decide_eq_true h, h]; simp
  · rw [decide_eq_false h]; simpa using h

set_option maxHeartbeats 2000000 in
theorem law_BackA0 (na nb : Bool) (aa ab : Option Addr) (qa qb ca cb : Nat) (l m : List Int) (n : Int) (s : ByteArray) (w : World) (ha : Ints w aa ca l) (hb : Ints w ab cb m) (la : l.length = qa) (lb : m.length = qb) (hn : -9223372036854775808 ≤ n ∧ n ≤ 9223372036854775807) (hs : 200 < s.size) (hv : okA ⟨na, aa, ca, l⟩ = false ∨ okA ⟨nb, ab, cb, m⟩ = false) :
    Calls Tryd.prog 5 #[.agg #[.bool na, .slice aa qa ca], .agg #[.bool nb, .slice ab qb cb], .int .i64 n, .string s] w fun e w' => e = .returned (.bool true) ∧ Ext w w' := by
  have HI := Lib.hid ha
  have HJ := Lib.hid hb
  have HLA := Lib.hid la
  have HLB := Lib.hid lb
  have HNN := Lib.hid hn
  have HV := Lib.hid hv
  have t1 : decide (s.size ≤ 200) = false := by simpa using hs
  have t2 : decide ((s.size : Int) ≤ 200) = false := by simp only [decide_eq_false_iff_not]; omega
  clear la lb ha hb hv hs
  have hx : Ext w (((w).alloc (.cells #[.bool na, .slice aa qa ca] 24)).alloc (.cells #[.bool nb, .slice ab qb cb] 24)) := (by repeat (first | with_reducible exact Ext.refl _ | with_reducible assumption | with_reducible refine Ext.drewN ?_ _ | with_reducible refine Ext.drew ?_ | with_reducible refine Ext.alloc' ?_ _ | with_reducible refine Ext.set ?_ (by dsimp only; omega) _))
  have Ka : Blk (((w).alloc (.cells #[.bool na, .slice aa qa ca] 24)).alloc (.cells #[.bool nb, .slice ab qb cb] 24)) (w.heap.size) #[.bool na, .slice aa qa ca] 24 := by have h := (Blk.new0 (w) #[.bool na, .slice aa qa ca] 24).alloc (.cells #[.bool nb, .slice ab qb cb] 24); simpa [Nat.add_assoc] using h
  have Ka := Lib.hid Ka
  have Kb : Blk (((w).alloc (.cells #[.bool na, .slice aa qa ca] 24)).alloc (.cells #[.bool nb, .slice ab qb cb] 24)) (w.heap.size + 1) #[.bool nb, .slice ab qb cb] 24 := by have h := Blk.new0 ((w).alloc (.cells #[.bool na, .slice aa qa ca] 24)) #[.bool nb, .slice ab qb cb] 24; simpa [Nat.add_assoc] using h
  have Kb := Lib.hid Kb
  go_enter Tryd.func5, Tryd.ntmps5
  go_upto_region 1 with fail
  try simp only [Nat.add_assoc, Nat.reduceAdd, Nat.add_zero]
  generalize ((w).alloc (.cells #[.bool na, .slice aa qa ca] 24)).alloc (.cells #[.bool nb, .slice ab qb cb] 24) = x1 at *
  go_wp2_with fail
  with_reducible refine (law09Sane _).mono ?_
  rintro e x2 ⟨rfl, hy⟩
  have hx := hx.trans hy
  have Ka := Lib.hid (Ka.out.ext hy)
  have Kb := Lib.hid (Kb.out.ext hy)
  clear hy
  have hI1 := fun W => nat_Make n W hn
  have HMK := Lib.hid hI1
  clear hI1
  go_wp2_with fail
  with_reducible refine (HMK.out _).mono ?_
  rintro e x3 ⟨v, rfl, hv, hy⟩
  have hv := hv.val
  have hx := hx.trans hy
  have Ka := Lib.hid (Ka.out.ext hy)
  have Kb := Lib.hid (Kb.out.ext hy)
  clear hy
  obtain ⟨ny, ay, qy, cy, rfl⟩ := hv.form
  have Vy := Lib.hid hv
  clear hv
  go_wp2_with fail
  with_reducible refine (int_of_make Vy.out HNN.out).mono ?_
  rintro e x4 ⟨rfl, hy⟩
  have hx := hx.trans hy
  have Ka := Lib.hid (Ka.out.ext hy)
  have Kb := Lib.hid (Kb.out.ext hy)
  have Vy := Lib.hid (Vy.out.ext hy)
  clear hy
  clear Vy
  go_upto_region 6 with fail
  go_upto_region 14 with fail
  have ca0 := Ka.out.cell (i := 0) (v := .bool na) rfl
  have ca1 := Ka.out.cell (i := 1) (v := .slice aa qa ca) rfl
  have cb0 := Kb.out.cell (i := 0) (v := .bool nb) rfl
  have cb1 := Kb.out.cell (i := 1) (v := .slice ab qb cb) rfl
  have hl := Ext.alloc x4 (.cells #[.bool na, .slice aa qa ca, .bool nb, .slice ab qb cb] 24)
  have hrow : BigRow (x4.alloc (.cells #[.bool na, .slice aa qa ca, .bool nb, .slice ab qb cb] 24)) x4.heap.size [⟨na, aa, ca, l⟩, ⟨nb, ab, cb, m⟩] := by
    have hB := Blk.new0 x4 #[.bool na, .slice aa qa ca, .bool nb, .slice ab qb cb] 24
    rw [← HLA.out, ← HLB.out] at hB ⊢
    refine bigRow2 hB (HI.out.ext ?_) (HJ.out.ext ?_)
    · have h := hx.trans hl
      rw [← HLA.out, ← HLB.out] at h; exact h
    · have h := hx.trans hl
      rw [← HLA.out, ← HLB.out] at h; exact h
  have HROW := Lib.hid hrow
  clear hrow
  have HVAL := Lib.hid (law_valid_no _ _ _ HROW.out (by simp) (by
    simp only [List.any_cons, List.any_nil, Bool.or_false]
    rcases HV.out with h | h
    · rw [h]; rfl
    · rw [h]; simp))
  simp only [List.length_cons, List.length_nil, Nat.zero_add, Nat.reduceAdd] at HVAL
  go_wp2_with fail
  with_reducible refine (HVAL.out).mono ?_
  rintro e x5 ⟨rfl, hy⟩
  have hx := hx.trans (hl.trans hy)
  have Ka := Lib.hid (Ka.out.ext (hl.trans hy))
  have Kb := Lib.hid (Kb.out.ext (hl.trans hy))
  clear hl hy HROW HVAL
  clear ca0 ca1 cb0 cb1
  go_wp2_with fail
  go_ret
  exact ⟨rfl, hx⟩
set_option maxHeartbeats 2000000 in
theorem law_BackA1 (na nb : Bool) (aa ab : Option Addr) (qa qb ca cb : Nat) (l m : List Int) (n : Int) (s : ByteArray) (w : World) (ha : Ints w aa ca l) (hb : Ints w ab cb m) (la : l.length = qa) (lb : m.length = qb) (hn : -9223372036854775808 ≤ n ∧ n ≤ 9223372036854775807) (hs : 200 < s.size) (hv : okA ⟨na, aa, ca, l⟩ = true ∧ okA ⟨nb, ab, cb, m⟩ = true) :
    Calls Tryd.prog 5 #[.agg #[.bool na, .slice aa qa ca], .agg #[.bool nb, .slice ab qb cb], .int .i64 n, .string s] w fun e w' => e = .returned (.bool true) ∧ Ext w w' := by
  have HI := Lib.hid ha
  have HJ := Lib.hid hb
  have HLA := Lib.hid la
  have HLB := Lib.hid lb
  have HNN := Lib.hid hn
  have HV := Lib.hid hv
  have t1 : decide (s.size ≤ 200) = false := by simpa using hs
  have t2 : decide ((s.size : Int) ≤ 200) = false := by simp only [decide_eq_false_iff_not]; omega
  clear la lb ha hb hv hs
  have hx : Ext w (((w).alloc (.cells #[.bool na, .slice aa qa ca] 24)).alloc (.cells #[.bool nb, .slice ab qb cb] 24)) := (by repeat (first | with_reducible exact Ext.refl _ | with_reducible assumption | with_reducible refine Ext.drewN ?_ _ | with_reducible refine Ext.drew ?_ | with_reducible refine Ext.alloc' ?_ _ | with_reducible refine Ext.set ?_ (by dsimp only; omega) _))
  have Ka : Blk (((w).alloc (.cells #[.bool na, .slice aa qa ca] 24)).alloc (.cells #[.bool nb, .slice ab qb cb] 24)) (w.heap.size) #[.bool na, .slice aa qa ca] 24 := by have h := (Blk.new0 (w) #[.bool na, .slice aa qa ca] 24).alloc (.cells #[.bool nb, .slice ab qb cb] 24); simpa [Nat.add_assoc] using h
  have Ka := Lib.hid Ka
  have Kb : Blk (((w).alloc (.cells #[.bool na, .slice aa qa ca] 24)).alloc (.cells #[.bool nb, .slice ab qb cb] 24)) (w.heap.size + 1) #[.bool nb, .slice ab qb cb] 24 := by have h := Blk.new0 ((w).alloc (.cells #[.bool na, .slice aa qa ca] 24)) #[.bool nb, .slice ab qb cb] 24; simpa [Nat.add_assoc] using h
  have Kb := Lib.hid Kb
  go_enter Tryd.func5, Tryd.ntmps5
  go_upto_region 1 with fail
  try simp only [Nat.add_assoc, Nat.reduceAdd, Nat.add_zero]
  generalize ((w).alloc (.cells #[.bool na, .slice aa qa ca] 24)).alloc (.cells #[.bool nb, .slice ab qb cb] 24) = x6 at *
  go_wp2_with fail
  with_reducible refine (law09Sane _).mono ?_
  rintro e x7 ⟨rfl, hy⟩
  have hx := hx.trans hy
  have Ka := Lib.hid (Ka.out.ext hy)
  have Kb := Lib.hid (Kb.out.ext hy)
  clear hy
  have hI1 := fun W => nat_Make n W hn
  have HMK := Lib.hid hI1
  clear hI1
  go_wp2_with fail
  with_reducible refine (HMK.out _).mono ?_
  rintro e x8 ⟨v, rfl, hv, hy⟩
  have hv := hv.val
  have hx := hx.trans hy
  have Ka := Lib.hid (Ka.out.ext hy)
  have Kb := Lib.hid (Kb.out.ext hy)
  clear hy
  obtain ⟨ny, ay, qy, cy, rfl⟩ := hv.form
  have Vy := Lib.hid hv
  clear hv
  go_wp2_with fail
  with_reducible refine (int_of_make Vy.out HNN.out).mono ?_
  rintro e x9 ⟨rfl, hy⟩
  have hx := hx.trans hy
  have Ka := Lib.hid (Ka.out.ext hy)
  have Kb := Lib.hid (Kb.out.ext hy)
  have Vy := Lib.hid (Vy.out.ext hy)
  clear hy
  clear Vy
  go_upto_region 6 with fail
  go_upto_region 14 with fail
  have ca0 := Ka.out.cell (i := 0) (v := .bool na) rfl
  have ca1 := Ka.out.cell (i := 1) (v := .slice aa qa ca) rfl
  have cb0 := Kb.out.cell (i := 0) (v := .bool nb) rfl
  have cb1 := Kb.out.cell (i := 1) (v := .slice ab qb cb) rfl
  have hl := Ext.alloc x9 (.cells #[.bool na, .slice aa qa ca, .bool nb, .slice ab qb cb] 24)
  have hrow : BigRow (x9.alloc (.cells #[.bool na, .slice aa qa ca, .bool nb, .slice ab qb cb] 24)) x9.heap.size [⟨na, aa, ca, l⟩, ⟨nb, ab, cb, m⟩] := by
    have hB := Blk.new0 x9 #[.bool na, .slice aa qa ca, .bool nb, .slice ab qb cb] 24
    rw [← HLA.out, ← HLB.out] at hB ⊢
    refine bigRow2 hB (HI.out.ext ?_) (HJ.out.ext ?_)
    · have h := hx.trans hl
      rw [← HLA.out, ← HLB.out] at h; exact h
    · have h := hx.trans hl
      rw [← HLA.out, ← HLB.out] at h; exact h
  have HROW := Lib.hid hrow
  clear hrow
  have HVAL := Lib.hid (law_valid_yes _ _ _ HROW.out (by simp) (by
    intro x hx
    simp only [List.mem_cons, List.not_mem_nil, or_false] at hx
    rcases hx with rfl | rfl
    · exact HV.out.1
    · exact HV.out.2))
  simp only [List.length_cons, List.length_nil, Nat.zero_add, Nat.reduceAdd] at HVAL
  go_wp2_with fail
  with_reducible refine (HVAL.out).mono ?_
  rintro e x10 ⟨rfl, hy⟩
  have hx := hx.trans (hl.trans hy)
  have Ka := Lib.hid (Ka.out.ext (hl.trans hy))
  have Kb := Lib.hid (Kb.out.ext (hl.trans hy))
  clear hl hy HROW HVAL
  clear ca0 ca1 cb0 cb1
  obtain ⟨hBa, hDa⟩ := okA_z HV.out.1
  obtain ⟨za, hza⟩ : ∃ z, sgn na (dval l) = z := ⟨_, rfl⟩
  have Va : Hid (BigV x10 (.agg #[.bool na, .slice aa qa ca]) za) := Lib.hid ⟨na, l, ⟨aa, ca, by rw [HLA.out], HI.out.ext hx⟩, by rw [← hza]; exact hBa⟩
  have Da : Hid ((digs za.natAbs).length ≤ 12) := Lib.hid (by rw [← hza]; exact hDa)
  clear hBa hDa hza
  obtain ⟨hBb, hDb⟩ := okA_z HV.out.2
  obtain ⟨zb, hzb⟩ : ∃ z, sgn nb (dval m) = z := ⟨_, rfl⟩
  have Vb : Hid (BigV x10 (.agg #[.bool nb, .slice ab qb cb]) zb) := Lib.hid ⟨nb, m, ⟨ab, cb, by rw [HLB.out], HJ.out.ext hx⟩, by rw [← hzb]; exact hBb⟩
  have Db : Hid ((digs zb.natAbs).length ≤ 12) := Lib.hid (by rw [← hzb]; exact hDb)
  clear hBb hDb hzb
  have La : Hid (Len za) := Lib.hid (Nat.le_trans Da.out (by omega))
  have Lb : Hid (Len zb) := Lib.hid (Nat.le_trans Db.out (by omega))
  obtain ⟨TA, hTA⟩ : ∃ T : ByteArray, ⟨(txtL za).toArray⟩ = T := ⟨_, rfl⟩
  have HTA := Lib.hid (show TA.data.toList = txtL za by rw [← hTA])
  have HCTA := Lib.hid (fun W (h : BigV W (.agg #[.bool na, .slice aa qa ca]) za) => text_val h La.out)
  unfold TextP at HCTA
  rw [hTA] at HCTA
  clear hTA
  have ca0 := Ka.out.cell (i := 0) (v := .bool na) rfl
  have ca1 := Ka.out.cell (i := 1) (v := .slice aa qa ca) rfl
  go_wp2_with fail
  with_reducible refine (HCTA.out _ Va.out).mono ?_
  rintro e x11 ⟨rfl, hy⟩
  have hx := hx.trans hy
  have Ka := Lib.hid (Ka.out.ext hy)
  have Kb := Lib.hid (Kb.out.ext hy)
  have Va := Lib.hid (Va.out.ext hy)
  have Vb := Lib.hid (Vb.out.ext hy)
  clear hy
  clear ca0 ca1
  obtain ⟨TB, hTB⟩ : ∃ T : ByteArray, ⟨(txtL zb).toArray⟩ = T := ⟨_, rfl⟩
  have HTB := Lib.hid (show TB.data.toList = txtL zb by rw [← hTB])
  have HCTB := Lib.hid (fun W (h : BigV W (.agg #[.bool nb, .slice ab qb cb]) zb) => text_val h Lb.out)
  unfold TextP at HCTB
  rw [hTB] at HCTB
  clear hTB
  have cb0 := Kb.out.cell (i := 0) (v := .bool nb) rfl
  have cb1 := Kb.out.cell (i := 1) (v := .slice ab qb cb) rfl
  go_wp2_with fail
  with_reducible refine (HCTB.out _ Vb.out).mono ?_
  rintro e x12 ⟨rfl, hy⟩
  have hx := hx.trans hy
  have Ka := Lib.hid (Ka.out.ext hy)
  have Kb := Lib.hid (Kb.out.ext hy)
  have Va := Lib.hid (Va.out.ext hy)
  have Vb := Lib.hid (Vb.out.ext hy)
  clear hy
  clear cb0 cb1
  have HRD : Hid (∀ W, Calls Tryd.prog 23 #[.string TA] W (OneP za W)) := Lib.hid (fun W => (read_val TA W (by rw [Lib.size_eq, HTA.out]; exact txt_len Da.out)).mono fun _ _ h => h.2 za (by rw [HTA.out]; exact read_text za))
  go_wp2_with fail
  with_reducible refine (HRD.out _).mono ?_
  rintro e x13 ⟨v, rfl, hv, hy⟩
  have hv := hv.val
  have hx := hx.trans hy
  have Ka := Lib.hid (Ka.out.ext hy)
  have Kb := Lib.hid (Kb.out.ext hy)
  have Va := Lib.hid (Va.out.ext hy)
  have Vb := Lib.hid (Vb.out.ext hy)
  clear hy
  obtain ⟨nx, ax, qx, cx, rfl⟩ := hv.form
  have Vx := Lib.hid hv
  clear hv
  go_upto_region 19 with fail
  have hl := Ext.alloc x13 (.cells #[.bool nx, .slice ax qx cx] 24)
  have hx := hx.trans hl
  have Ka := Lib.hid (Ka.out.ext hl)
  have Kb := Lib.hid (Kb.out.ext hl)
  have Va := Lib.hid (Va.out.ext hl)
  have Vb := Lib.hid (Vb.out.ext hl)
  have Vx := Lib.hid (Vx.out.ext hl)
  have Kx := Lib.hid (Blk.new0 x13 #[.bool nx, .slice ax qx cx] 24)
  clear hl
  generalize x13.alloc (.cells #[.bool nx, .slice ax qx cx] 24) = x14 at *
  generalize x13.heap.size = px at *
  obtain ⟨fv, hfv⟩ : ∃ v, fitV za = v := ⟨_, rfl⟩
  obtain ⟨fb, hfb⟩ : ∃ b, fitI za = b := ⟨_, rfl⟩
  have HIN := Lib.hid (fun W (h : BigV W (.agg #[.bool na, .slice aa qa ca]) za) => int_val h La.out)
  rw [hfv, hfb] at HIN
  have HFV := Lib.hid hfv
  have HFB := Lib.hid hfb
  clear hfv hfb
  have ca0 := Ka.out.cell (i := 0) (v := .bool na) rfl
  have ca1 := Ka.out.cell (i := 1) (v := .slice aa qa ca) rfl
  go_wp2_with fail
  with_reducible refine (HIN.out _ Va.out).mono ?_
  rintro e x15 ⟨rfl, hy⟩
  have hx := hx.trans hy
  have Ka := Lib.hid (Ka.out.ext hy)
  have Kb := Lib.hid (Kb.out.ext hy)
  have Va := Lib.hid (Va.out.ext hy)
  have Vb := Lib.hid (Vb.out.ext hy)
  have Vx := Lib.hid (Vx.out.ext hy)
  have Kx := Lib.hid (Kx.out.ext hy)
  clear hy
  clear ca0 ca1
  go_upto_region 20 with fail
  obtain ⟨eq, heq⟩ : ∃ b, decide (za = zb) = b := ⟨_, rfl⟩
  have hstr : (TA.toList == TB.toList) = eq := by
    rw [str_eq, HTA.out, HTB.out, ← heq]
    by_cases h : za = zb
    · rw [h]; simp
    · rw [decide_eq_false h, decide_eq_false (fun e => h (txt_inj e))]
  have HEQ := Lib.hid heq
  clear heq
  have ca0 := Ka.out.cell (i := 0) (v := .bool na) rfl
  have ca1 := Ka.out.cell (i := 1) (v := .slice aa qa ca) rfl
  have cb0 := Kb.out.cell (i := 0) (v := .bool nb) rfl
  have cb1 := Kb.out.cell (i := 1) (v := .slice ab qb cb) rfl
  have cx0 := Kx.out.cell (i := 0) (v := .bool nx) rfl
  have cx1 := Kx.out.cell (i := 1) (v := .slice ax qx cx) rfl
  have hE : Ext x15 x15.drew := (Ext.refl _).drew
  cases fb
  · skip
    refine wp_region_held_drew (S := (fun w' => w'.cell? ⟨w.heap.size, 0, none⟩ = some (.bool na) ∧ w'.cell? ⟨w.heap.size, 1, none⟩ = some (.slice aa qa ca) ∧ w'.cell? ⟨w.heap.size + 1, 0, none⟩ = some (.bool nb) ∧ w'.cell? ⟨w.heap.size + 1, 1, none⟩ = some (.slice ab qb cb) ∧ w'.cell? ⟨px, 0, none⟩ = some (.bool nx) ∧ w'.cell? ⟨px, 1, none⟩ = some (.slice ax qx cx))) (by kernel_rfl) ?_ (fun hHeld => ?_)
    · (first | exact ⟨cell_ext hy hHeld.1, cell_ext hy hHeld.2.1, cell_ext hy hHeld.2.2.1, cell_ext hy hHeld.2.2.2.1, cell_ext hy hHeld.2.2.2.2.1, cell_ext hy hHeld.2.2.2.2.2⟩ | exact ⟨ca0, ca1, cb0, cb1, cx0, cx1⟩ | exact hHeld)
    refine wpAnyH_take (i := 0) (oi := _) (v := ?_) rfl (by kernel_rfl) (by kernel_rfl) (by kernel_rfl) (fun _ _ _ h => h) (Or.inl ⟨by rfl, ?_⟩) (by assumption) ?_
    rotate_left
    · (intro w hSw; (try dsimp only at hSw); (try go_simp); (try with_reducible rfl))
    (try simp only [Act.put, List.getElem_toArray, List.getElem_cons_succ, List.getElem_cons_zero, List.setIfInBounds_toArray, List.set_cons_zero, List.set_cons_succ])
    refine wpAnyH_take (i := 1) (oi := _) (v := ?_) rfl (by kernel_rfl) (by kernel_rfl) (by kernel_rfl) (fun _ _ _ h => h) (Or.inl ⟨by rfl, ?_⟩) (by assumption) ?_
    rotate_left
    · (intro w hSw; (try dsimp only at hSw); (try go_simp); (try with_reducible rfl))
    (try simp only [Act.put, List.getElem_toArray, List.getElem_cons_succ, List.getElem_cons_zero, List.setIfInBounds_toArray, List.set_cons_zero, List.set_cons_succ])
    refine wpAnyH_take (i := 2) (oi := _) (v := ?_) rfl (by kernel_rfl) (by kernel_rfl) (by kernel_rfl) (fun _ _ _ h => h) (Or.inl ⟨by rfl, ?_⟩) (by assumption) ?_
    rotate_left
    · (intro w hSw; (try dsimp only at hSw); (try go_simp); (try with_reducible rfl))
    (try simp only [Act.put, List.getElem_toArray, List.getElem_cons_succ, List.getElem_cons_zero, List.setIfInBounds_toArray, List.set_cons_zero, List.set_cons_succ])
    refine wpAnyH_take (i := 3) (oi := _) (v := ?_) rfl (by kernel_rfl) (by kernel_rfl) (by kernel_rfl) (fun _ _ _ h => h) (Or.inl ⟨by rfl, ?_⟩) (by assumption) ?_
    rotate_left
    · (intro w hSw; (try dsimp only at hSw); (try go_simp); (try with_reducible rfl))
    (try simp only [Act.put, List.getElem_toArray, List.getElem_cons_succ, List.getElem_cons_zero, List.setIfInBounds_toArray, List.set_cons_zero, List.set_cons_succ])
    refine wpAnyH_take (i := 4) (oi := _) (v := ?_) rfl (by kernel_rfl) (by kernel_rfl) (by kernel_rfl) (fun _ _ _ h => h) (Or.inl ⟨by rfl, ?_⟩) (by assumption) ?_
    rotate_left
    · (intro w hSw; (try dsimp only at hSw); (try go_simp); (try with_reducible rfl))
    (try simp only [Act.put, List.getElem_toArray, List.getElem_cons_succ, List.getElem_cons_zero, List.setIfInBounds_toArray, List.set_cons_zero, List.set_cons_succ])
    refine wpAnyH_take (i := 5) (oi := _) (v := ?_) rfl (by kernel_rfl) (by kernel_rfl) (by kernel_rfl) (fun _ _ _ h => h) (Or.inl ⟨by rfl, ?_⟩) (by assumption) ?_
    rotate_left
    · (intro w hSw; (try dsimp only at hSw); (try go_simp); (try with_reducible rfl))
    (try simp only [Act.put, List.getElem_toArray, List.getElem_cons_succ, List.getElem_cons_zero, List.setIfInBounds_toArray, List.set_cons_zero, List.set_cons_succ])
    refine wpAnyH_take (i := 6) (oi := _) (v := ?_) rfl (by kernel_rfl) (by kernel_rfl) (by kernel_rfl) (fun _ _ _ h => h) (Or.inl ⟨by rfl, ?_⟩) (by assumption) ?_
    rotate_left
    · (intro w hSw; (try dsimp only at hSw); (try go_simp); (try with_reducible rfl))
    (try simp only [Act.put, List.getElem_toArray, List.getElem_cons_succ, List.getElem_cons_zero, List.setIfInBounds_toArray, List.set_cons_zero, List.set_cons_succ])
    refine wpAnyH_take (i := 7) (oi := _) (v := ?_) rfl (by kernel_rfl) (by kernel_rfl) (by kernel_rfl) (fun _ _ _ h => h) (Or.inl ⟨by rfl, ?_⟩) (by assumption) ?_
    rotate_left
    · (intro w hSw; (try dsimp only at hSw); (try go_simp); (try with_reducible rfl))
    (try simp only [Act.put, List.getElem_toArray, List.getElem_cons_succ, List.getElem_cons_zero, List.setIfInBounds_toArray, List.set_cons_zero, List.set_cons_succ])
    refine wpAnyH_take (i := 8) (oi := _) (v := ?_) rfl (by kernel_rfl) (by kernel_rfl) (by kernel_rfl) (fun _ _ _ h => h) (Or.inl ⟨by rfl, ?_⟩) (by assumption) ?_
    rotate_left
    · (intro w hSw; (try dsimp only at hSw); (try go_simp); (try with_reducible rfl))
    (try simp only [Act.put, List.getElem_toArray, List.getElem_cons_succ, List.getElem_cons_zero, List.setIfInBounds_toArray, List.set_cons_zero, List.set_cons_succ])
    refine wpAnyH_take (i := 9) (oi := _) (v := ?_) rfl (by kernel_rfl) (by kernel_rfl) (by kernel_rfl) (fun _ _ _ h => h) (Or.inl ⟨by rfl, ?_⟩) (by assumption) ?_
    rotate_left
    · (intro w hSw; (try dsimp only at hSw); (try go_simp); (try with_reducible rfl))
    (try simp only [Act.put, List.getElem_toArray, List.getElem_cons_succ, List.getElem_cons_zero, List.setIfInBounds_toArray, List.set_cons_zero, List.set_cons_succ])
    refine wpAnyH_take (i := 10) (oi := _) (v := ?_) rfl (by kernel_rfl) (by kernel_rfl) (by kernel_rfl) (fun _ _ _ h => h) (Or.inl ⟨by rfl, ?_⟩) (by assumption) ?_
    rotate_left
    · (intro w hSw; (try dsimp only at hSw); (try go_simp); (try with_reducible rfl))
    (try simp only [Act.put, List.getElem_toArray, List.getElem_cons_succ, List.getElem_cons_zero, List.setIfInBounds_toArray, List.set_cons_zero, List.set_cons_succ])
    refine wpAnyH_take (i := 11) (oi := _) (v := ?_) rfl (by kernel_rfl) (by kernel_rfl) (by kernel_rfl) (fun _ _ _ h => h) (Or.inl ⟨by rfl, ?_⟩) (by assumption) ?_
    rotate_left
    · (intro w hSw; (try dsimp only at hSw); (try go_simp); (try with_reducible rfl))
    (try simp only [Act.put, List.getElem_toArray, List.getElem_cons_succ, List.getElem_cons_zero, List.setIfInBounds_toArray, List.set_cons_zero, List.set_cons_succ])
    refine wpAnyH_take (i := 12) (oi := _) (v := ?_) rfl (by kernel_rfl) (by kernel_rfl) (by kernel_rfl) (fun _ _ _ h => h) (Or.inl ⟨by rfl, ?_⟩) (by assumption) ?_
    rotate_left
    · (intro w hSw; (try dsimp only at hSw); (try go_simp); (try with_reducible rfl))
    (try simp only [Act.put, List.getElem_toArray, List.getElem_cons_succ, List.getElem_cons_zero, List.setIfInBounds_toArray, List.set_cons_zero, List.set_cons_succ])
    refine wpAnyH_take (i := 13) (oi := _) (v := ?_) rfl (by kernel_rfl) (by kernel_rfl) (by kernel_rfl) (fun _ _ _ h => h) (Or.inl ⟨by rfl, ?_⟩) (by assumption) ?_
    rotate_left
    · (intro w hSw; (try dsimp only at hSw); (try go_simp); (try with_reducible rfl))
    (try simp only [Act.put, List.getElem_toArray, List.getElem_cons_succ, List.getElem_cons_zero, List.setIfInBounds_toArray, List.set_cons_zero, List.set_cons_succ])
    refine wpAnyH_take (i := 14) (oi := _) (v := ?_) rfl (by kernel_rfl) (by kernel_rfl) (by kernel_rfl) (fun _ _ _ h => h) (Or.inl ⟨by rfl, ?_⟩) (by assumption) ?_
    rotate_left
    · (intro w hSw; (try dsimp only at hSw); (try go_simp); (try with_reducible rfl))
    (try simp only [Act.put, List.getElem_toArray, List.getElem_cons_succ, List.getElem_cons_zero, List.setIfInBounds_toArray, List.set_cons_zero, List.set_cons_succ])
    refine wpAnyH_take (i := 15) (oi := _) (v := ?_) rfl (by kernel_rfl) (by kernel_rfl) (by kernel_rfl) (fun _ _ _ h => h) (Or.inl ⟨by rfl, ?_⟩) (by assumption) ?_
    rotate_left
    · (intro w hSw; (try dsimp only at hSw); (try go_simp); (try with_reducible rfl))
    (try simp only [Act.put, List.getElem_toArray, List.getElem_cons_succ, List.getElem_cons_zero, List.setIfInBounds_toArray, List.set_cons_zero, List.set_cons_succ])
    refine wpAnyH_take (i := 16) (oi := _) (v := ?_) rfl (by kernel_rfl) (by kernel_rfl) (by kernel_rfl) (fun _ _ _ h => h) (Or.inl ⟨by rfl, ?_⟩) (by assumption) ?_
    rotate_left
    · (intro w hSw; (try dsimp only at hSw); (try go_simp); (try with_reducible rfl))
    (try simp only [Act.put, List.getElem_toArray, List.getElem_cons_succ, List.getElem_cons_zero, List.setIfInBounds_toArray, List.set_cons_zero, List.set_cons_succ])
    refine wpAnyH_ready (rs := [17]) (by kernel_rfl) (by simp) ?_
    refine AllReadyH.cons (o := _) rfl (fun K hK => ?_) ?_
    · go_simp
      (with_reducible refine (sameT (Vx.out.ext hE) (Va.out.ext hE) rfl).mono ?_); rintro e y1 ⟨rfl, hy⟩; have hE := hE.trans hy
      refine hK.out _ _ ?_ (fun hHeld2 => ?_)
      · (first | exact ⟨cell_ext hy hHeld.1, cell_ext hy hHeld.2.1, cell_ext hy hHeld.2.2.1, cell_ext hy hHeld.2.2.2.1, cell_ext hy hHeld.2.2.2.2.1, cell_ext hy hHeld.2.2.2.2.2⟩ | exact ⟨ca0, ca1, cb0, cb1, cx0, cx1⟩ | exact hHeld)
      clear hK K hHeld
      have hHeld := hHeld2
      clear hHeld2
      (try simp only [Act.put, List.getElem_toArray, List.getElem_cons_succ, List.getElem_cons_zero, List.setIfInBounds_toArray, List.set_cons_zero, List.set_cons_succ])
      refine wpAnyH_take (i := 18) (oi := _) (v := ?_) rfl (by kernel_rfl) (by kernel_rfl) (by kernel_rfl) (fun _ _ _ h => h) (Or.inl ⟨by rfl, ?_⟩) (by assumption) ?_
      rotate_left
      · (intro w hSw; (try dsimp only at hSw); (try go_simp); (try with_reducible rfl))
      (try simp only [Act.put, List.getElem_toArray, List.getElem_cons_succ, List.getElem_cons_zero, List.setIfInBounds_toArray, List.set_cons_zero, List.set_cons_succ])
      refine wpAnyH_take (i := 19) (oi := _) (v := ?_) rfl (by kernel_rfl) (by kernel_rfl) (by kernel_rfl) (fun _ _ _ h => h) (Or.inl ⟨by rfl, ?_⟩) (by assumption) ?_
      rotate_left
      · (intro w hSw; (try dsimp only at hSw); (try go_simp); (try with_reducible rfl))
      (try simp only [Act.put, List.getElem_toArray, List.getElem_cons_succ, List.getElem_cons_zero, List.setIfInBounds_toArray, List.set_cons_zero, List.set_cons_succ])
      refine wpAnyH_take (i := 20) (oi := _) (v := ?_) rfl (by kernel_rfl) (by kernel_rfl) (by kernel_rfl) (fun _ _ _ h => h) (Or.inl ⟨by rfl, ?_⟩) (by assumption) ?_
      rotate_left
      · (intro w hSw; (try dsimp only at hSw); (try go_simp); (try with_reducible rfl))
      (try simp only [Act.put, List.getElem_toArray, List.getElem_cons_succ, List.getElem_cons_zero, List.setIfInBounds_toArray, List.set_cons_zero, List.set_cons_succ])
      refine wpAnyH_take (i := 21) (oi := _) (v := ?_) rfl (by kernel_rfl) (by kernel_rfl) (by kernel_rfl) (fun _ _ _ h => h) (Or.inl ⟨by rfl, ?_⟩) (by assumption) ?_
      rotate_left
      · (intro w hSw; (try dsimp only at hSw); (try go_simp); (try with_reducible rfl))
      (try simp only [Act.put, List.getElem_toArray, List.getElem_cons_succ, List.getElem_cons_zero, List.setIfInBounds_toArray, List.set_cons_zero, List.set_cons_succ])
      refine wpAnyH_take (i := 22) (oi := _) (v := ?_) rfl (by kernel_rfl) (by kernel_rfl) (by kernel_rfl) (fun _ _ _ h => h) (Or.inl ⟨by rfl, ?_⟩) (by assumption) ?_
      rotate_left
      · (intro w hSw; (try dsimp only at hSw); (try go_simp); (try with_reducible rfl))
      (try simp only [Act.put, List.getElem_toArray, List.getElem_cons_succ, List.getElem_cons_zero, List.setIfInBounds_toArray, List.set_cons_zero, List.set_cons_succ])
      refine wpAnyH_take (i := 23) (oi := _) (v := ?_) rfl (by kernel_rfl) (by kernel_rfl) (by kernel_rfl) (fun _ _ _ h => h) (Or.inl ⟨by rfl, ?_⟩) (by assumption) ?_
      rotate_left
      · (intro w hSw; (try dsimp only at hSw); (try go_simp); (try with_reducible rfl))
      (try simp only [Act.put, List.getElem_toArray, List.getElem_cons_succ, List.getElem_cons_zero, List.setIfInBounds_toArray, List.set_cons_zero, List.set_cons_succ])
      refine wpAnyH_take (i := 24) (oi := _) (v := ?_) rfl (by kernel_rfl) (by kernel_rfl) (by kernel_rfl) (fun _ _ _ h => h) (Or.inl ⟨by rfl, ?_⟩) (by assumption) ?_
      rotate_left
      · (intro w hSw; (try dsimp only at hSw); (try go_simp); (try with_reducible rfl))
      (try simp only [Act.put, List.getElem_toArray, List.getElem_cons_succ, List.getElem_cons_zero, List.setIfInBounds_toArray, List.set_cons_zero, List.set_cons_succ])
      refine wpAnyH_ready (rs := [25]) (by kernel_rfl) (by simp) ?_
      refine AllReadyH.cons (o := _) rfl (fun K hK => ?_) ?_
      · go_simp
        (with_reducible refine (ref_Same_gen (Va.out.ext hE) (Vb.out.ext hE)).mono ?_); rintro e y2 ⟨rfl, hy⟩; rw [HEQ.out]; have hE := hE.trans hy
        refine hK.out _ _ ?_ (fun hHeld2 => ?_)
        · (first | exact ⟨cell_ext hy hHeld.1, cell_ext hy hHeld.2.1, cell_ext hy hHeld.2.2.1, cell_ext hy hHeld.2.2.2.1, cell_ext hy hHeld.2.2.2.2.1, cell_ext hy hHeld.2.2.2.2.2⟩ | exact ⟨ca0, ca1, cb0, cb1, cx0, cx1⟩ | exact hHeld)
        clear hK K hHeld
        have hHeld := hHeld2
        clear hHeld2
        (try simp only [Act.put, List.getElem_toArray, List.getElem_cons_succ, List.getElem_cons_zero, List.setIfInBounds_toArray, List.set_cons_zero, List.set_cons_succ])
        refine wpAnyH_take (i := 26) (oi := _) (v := ?_) rfl (by kernel_rfl) (by kernel_rfl) (by kernel_rfl) (fun _ _ _ h => h) (Or.inl ⟨by rfl, ?_⟩) (by assumption) ?_
        rotate_left
        · (intro w hSw; (try dsimp only at hSw); (try go_simp); (try with_reducible rfl))
        (try simp only [Act.put, List.getElem_toArray, List.getElem_cons_succ, List.getElem_cons_zero, List.setIfInBounds_toArray, List.set_cons_zero, List.set_cons_succ])
        refine wpAnyH_take (i := 27) (oi := _) (v := ?_) rfl (by kernel_rfl) (by kernel_rfl) (by kernel_rfl) (fun _ _ _ h => h) (Or.inl ⟨by rfl, ?_⟩) (by assumption) ?_
        rotate_left
        · (intro w hSw; (try dsimp only at hSw); (try go_simp); (try with_reducible rfl))
        (try simp only [Act.put, List.getElem_toArray, List.getElem_cons_succ, List.getElem_cons_zero, List.setIfInBounds_toArray, List.set_cons_zero, List.set_cons_succ])
        refine wpAnyH_take (i := 28) (oi := _) (v := ?_) rfl (by kernel_rfl) (by kernel_rfl) (by kernel_rfl) (fun _ _ _ h => h) (Or.inl ⟨by rfl, ?_⟩) (by assumption) ?_
        rotate_left
        · (intro w hSw; (try dsimp only at hSw); (try go_simp); (try with_reducible rfl))
        (try simp only [Act.put, List.getElem_toArray, List.getElem_cons_succ, List.getElem_cons_zero, List.setIfInBounds_toArray, List.set_cons_zero, List.set_cons_succ])
        refine wpAnyH_take (i := 29) (oi := _) (v := ?_) rfl (by kernel_rfl) (by kernel_rfl) (by kernel_rfl) (fun _ _ _ h => h) (Or.inl ⟨by rfl, ?_⟩) (by assumption) ?_
        rotate_left
        · (intro w hSw; (try dsimp only at hSw); (try go_simp); (try with_reducible rfl))
        (try simp only [Act.put, List.getElem_toArray, List.getElem_cons_succ, List.getElem_cons_zero, List.setIfInBounds_toArray, List.set_cons_zero, List.set_cons_succ])
        refine wpAnyH_take (i := 30) (oi := _) (v := ?_) rfl (by kernel_rfl) (by kernel_rfl) (by kernel_rfl) (fun _ _ _ h => h) (Or.inl ⟨by rfl, ?_⟩) (by assumption) ?_
        rotate_left
        · (intro w hSw; (try dsimp only at hSw); (try go_simp); (try with_reducible rfl))
        (try simp only [Act.put, List.getElem_toArray, List.getElem_cons_succ, List.getElem_cons_zero, List.setIfInBounds_toArray, List.set_cons_zero, List.set_cons_succ])
        refine wpAnyH_take (i := 31) (oi := _) (v := ?_) rfl (by kernel_rfl) (by kernel_rfl) (by kernel_rfl) (fun _ _ _ h => h) (Or.inl ⟨by rfl, ?_⟩) (by assumption) ?_
        rotate_left
        · (intro w hSw; (try dsimp only at hSw); (try go_simp); (try with_reducible rfl))
        (try simp only [Act.put, List.getElem_toArray, List.getElem_cons_succ, List.getElem_cons_zero, List.setIfInBounds_toArray, List.set_cons_zero, List.set_cons_succ])
        refine wpAnyH_take (i := 32) (oi := _) (v := undef) rfl (by kernel_rfl) (by kernel_rfl) (by kernel_rfl) (fun _ _ _ h => h) (Or.inr ⟨by rfl, rfl⟩) (by assumption) ?_
        (try simp only [Act.put, List.getElem_toArray, List.getElem_cons_succ, List.getElem_cons_zero, List.setIfInBounds_toArray, List.set_cons_zero, List.set_cons_succ])
        refine wpAnyH_take (i := 33) (oi := _) (v := undef) rfl (by kernel_rfl) (by kernel_rfl) (by kernel_rfl) (fun _ _ _ h => h) (Or.inr ⟨by rfl, rfl⟩) (by assumption) ?_
        (try simp only [Act.put, List.getElem_toArray, List.getElem_cons_succ, List.getElem_cons_zero, List.setIfInBounds_toArray, List.set_cons_zero, List.set_cons_succ])
        refine wpAnyH_take (i := 34) (oi := _) (v := undef) rfl (by kernel_rfl) (by kernel_rfl) (by kernel_rfl) (fun _ _ _ h => h) (Or.inr ⟨by rfl, rfl⟩) (by assumption) ?_
        (try simp only [Act.put, List.getElem_toArray, List.getElem_cons_succ, List.getElem_cons_zero, List.setIfInBounds_toArray, List.set_cons_zero, List.set_cons_succ])
        refine wpAnyH_take (i := 35) (oi := _) (v := undef) rfl (by kernel_rfl) (by kernel_rfl) (by kernel_rfl) (fun _ _ _ h => h) (Or.inr ⟨by rfl, rfl⟩) (by assumption) ?_
        (try simp only [Act.put, List.getElem_toArray, List.getElem_cons_succ, List.getElem_cons_zero, List.setIfInBounds_toArray, List.set_cons_zero, List.set_cons_succ])
        refine wpAnyH_take (i := 36) (oi := _) (v := ?_) rfl (by kernel_rfl) (by kernel_rfl) (by kernel_rfl) (fun _ _ _ h => h) (Or.inl ⟨by rfl, ?_⟩) (by assumption) ?_
        rotate_left
        · (intro w hSw; (try dsimp only at hSw); (try go_simp); (try with_reducible rfl))
        (try simp only [Act.put, List.getElem_toArray, List.getElem_cons_succ, List.getElem_cons_zero, List.setIfInBounds_toArray, List.set_cons_zero, List.set_cons_succ])
        refine wpAnyH_take (i := 37) (oi := _) (v := ?_) rfl (by kernel_rfl) (by kernel_rfl) (by kernel_rfl) (fun _ _ _ h => h) (Or.inl ⟨by rfl, ?_⟩) (by assumption) ?_
        rotate_left
        · (intro w hSw; (try dsimp only at hSw); (try go_simp); (try with_reducible rfl))
        (try simp only [Act.put, List.getElem_toArray, List.getElem_cons_succ, List.getElem_cons_zero, List.setIfInBounds_toArray, List.set_cons_zero, List.set_cons_succ])
        refine wpAnyH_take (i := 38) (oi := _) (v := ?_) rfl (by kernel_rfl) (by kernel_rfl) (by kernel_rfl) (fun _ _ _ h => h) (Or.inl ⟨by rfl, ?_⟩) (by assumption) ?_
        rotate_left
        · (intro w hSw; (try dsimp only at hSw); (try go_simp); (try with_reducible rfl))
        (try simp only [Act.put, List.getElem_toArray, List.getElem_cons_succ, List.getElem_cons_zero, List.setIfInBounds_toArray, List.set_cons_zero, List.set_cons_succ])
        refine wpAnyH_done (by kernel_rfl) ?_ _
        (go_wp2_with fail; go_ret; exact ⟨rfl, hx.trans hE⟩)
      exact AllReadyH.nil
    exact AllReadyH.nil
  · have hff : fitV za = za := by
      have h := HFB.out
      unfold fitV; rw [if_pos h]
    have HFE := Lib.hid (show fv = za by rw [← HFV.out]; exact hff)
    have hfb : -9223372036854775808 ≤ fv ∧ fv ≤ 9223372036854775807 := by
      have h := HFB.out
      simp only [fitI, Bool.and_eq_true, decide_eq_true_eq] at h
      rw [HFE.out]; exact h
    have HMK2 := Lib.hid (fun W => nat_Make fv W hfb)
    clear hfb hff
    refine wp_region_held_drew (S := (fun w' => w'.cell? ⟨w.heap.size, 0, none⟩ = some (.bool na) ∧ w'.cell? ⟨w.heap.size, 1, none⟩ = some (.slice aa qa ca) ∧ w'.cell? ⟨w.heap.size + 1, 0, none⟩ = some (.bool nb) ∧ w'.cell? ⟨w.heap.size + 1, 1, none⟩ = some (.slice ab qb cb) ∧ w'.cell? ⟨px, 0, none⟩ = some (.bool nx) ∧ w'.cell? ⟨px, 1, none⟩ = some (.slice ax qx cx))) (by kernel_rfl) ?_ (fun hHeld => ?_)
    · (first | exact ⟨cell_ext hy hHeld.1, cell_ext hy hHeld.2.1, cell_ext hy hHeld.2.2.1, cell_ext hy hHeld.2.2.2.1, cell_ext hy hHeld.2.2.2.2.1, cell_ext hy hHeld.2.2.2.2.2⟩ | exact ⟨ca0, ca1, cb0, cb1, cx0, cx1⟩ | exact hHeld)
    refine wpAnyH_take (i := 0) (oi := _) (v := ?_) rfl (by kernel_rfl) (by kernel_rfl) (by kernel_rfl) (fun _ _ _ h => h) (Or.inl ⟨by rfl, ?_⟩) (by assumption) ?_
    rotate_left
    · (intro w hSw; (try dsimp only at hSw); (try go_simp); (try with_reducible rfl))
    (try simp only [Act.put, List.getElem_toArray, List.getElem_cons_succ, List.getElem_cons_zero, List.setIfInBounds_toArray, List.set_cons_zero, List.set_cons_succ])
    refine wpAnyH_take (i := 1) (oi := _) (v := ?_) rfl (by kernel_rfl) (by kernel_rfl) (by kernel_rfl) (fun _ _ _ h => h) (Or.inl ⟨by rfl, ?_⟩) (by assumption) ?_
    rotate_left
    · (intro w hSw; (try dsimp only at hSw); (try go_simp); (try with_reducible rfl))
    (try simp only [Act.put, List.getElem_toArray, List.getElem_cons_succ, List.getElem_cons_zero, List.setIfInBounds_toArray, List.set_cons_zero, List.set_cons_succ])
    refine wpAnyH_take (i := 2) (oi := _) (v := ?_) rfl (by kernel_rfl) (by kernel_rfl) (by kernel_rfl) (fun _ _ _ h => h) (Or.inl ⟨by rfl, ?_⟩) (by assumption) ?_
    rotate_left
    · (intro w hSw; (try dsimp only at hSw); (try go_simp); (try with_reducible rfl))
    (try simp only [Act.put, List.getElem_toArray, List.getElem_cons_succ, List.getElem_cons_zero, List.setIfInBounds_toArray, List.set_cons_zero, List.set_cons_succ])
    refine wpAnyH_take (i := 3) (oi := _) (v := ?_) rfl (by kernel_rfl) (by kernel_rfl) (by kernel_rfl) (fun _ _ _ h => h) (Or.inl ⟨by rfl, ?_⟩) (by assumption) ?_
    rotate_left
    · (intro w hSw; (try dsimp only at hSw); (try go_simp); (try with_reducible rfl))
    (try simp only [Act.put, List.getElem_toArray, List.getElem_cons_succ, List.getElem_cons_zero, List.setIfInBounds_toArray, List.set_cons_zero, List.set_cons_succ])
    refine wpAnyH_take (i := 4) (oi := _) (v := ?_) rfl (by kernel_rfl) (by kernel_rfl) (by kernel_rfl) (fun _ _ _ h => h) (Or.inl ⟨by rfl, ?_⟩) (by assumption) ?_
    rotate_left
    · (intro w hSw; (try dsimp only at hSw); (try go_simp); (try with_reducible rfl))
    (try simp only [Act.put, List.getElem_toArray, List.getElem_cons_succ, List.getElem_cons_zero, List.setIfInBounds_toArray, List.set_cons_zero, List.set_cons_succ])
    refine wpAnyH_take (i := 5) (oi := _) (v := ?_) rfl (by kernel_rfl) (by kernel_rfl) (by kernel_rfl) (fun _ _ _ h => h) (Or.inl ⟨by rfl, ?_⟩) (by assumption) ?_
    rotate_left
    · (intro w hSw; (try dsimp only at hSw); (try go_simp); (try with_reducible rfl))
    (try simp only [Act.put, List.getElem_toArray, List.getElem_cons_succ, List.getElem_cons_zero, List.setIfInBounds_toArray, List.set_cons_zero, List.set_cons_succ])
    refine wpAnyH_take (i := 6) (oi := _) (v := ?_) rfl (by kernel_rfl) (by kernel_rfl) (by kernel_rfl) (fun _ _ _ h => h) (Or.inl ⟨by rfl, ?_⟩) (by assumption) ?_
    rotate_left
    · (intro w hSw; (try dsimp only at hSw); (try go_simp); (try with_reducible rfl))
    (try simp only [Act.put, List.getElem_toArray, List.getElem_cons_succ, List.getElem_cons_zero, List.setIfInBounds_toArray, List.set_cons_zero, List.set_cons_succ])
    refine wpAnyH_take (i := 7) (oi := _) (v := ?_) rfl (by kernel_rfl) (by kernel_rfl) (by kernel_rfl) (fun _ _ _ h => h) (Or.inl ⟨by rfl, ?_⟩) (by assumption) ?_
    rotate_left
    · (intro w hSw; (try dsimp only at hSw); (try go_simp); (try with_reducible rfl))
    (try simp only [Act.put, List.getElem_toArray, List.getElem_cons_succ, List.getElem_cons_zero, List.setIfInBounds_toArray, List.set_cons_zero, List.set_cons_succ])
    refine wpAnyH_take (i := 8) (oi := _) (v := ?_) rfl (by kernel_rfl) (by kernel_rfl) (by kernel_rfl) (fun _ _ _ h => h) (Or.inl ⟨by rfl, ?_⟩) (by assumption) ?_
    rotate_left
    · (intro w hSw; (try dsimp only at hSw); (try go_simp); (try with_reducible rfl))
    (try simp only [Act.put, List.getElem_toArray, List.getElem_cons_succ, List.getElem_cons_zero, List.setIfInBounds_toArray, List.set_cons_zero, List.set_cons_succ])
    refine wpAnyH_take (i := 9) (oi := _) (v := ?_) rfl (by kernel_rfl) (by kernel_rfl) (by kernel_rfl) (fun _ _ _ h => h) (Or.inl ⟨by rfl, ?_⟩) (by assumption) ?_
    rotate_left
    · (intro w hSw; (try dsimp only at hSw); (try go_simp); (try with_reducible rfl))
    (try simp only [Act.put, List.getElem_toArray, List.getElem_cons_succ, List.getElem_cons_zero, List.setIfInBounds_toArray, List.set_cons_zero, List.set_cons_succ])
    refine wpAnyH_take (i := 10) (oi := _) (v := ?_) rfl (by kernel_rfl) (by kernel_rfl) (by kernel_rfl) (fun _ _ _ h => h) (Or.inl ⟨by rfl, ?_⟩) (by assumption) ?_
    rotate_left
    · (intro w hSw; (try dsimp only at hSw); (try go_simp); (try with_reducible rfl))
    (try simp only [Act.put, List.getElem_toArray, List.getElem_cons_succ, List.getElem_cons_zero, List.setIfInBounds_toArray, List.set_cons_zero, List.set_cons_succ])
    refine wpAnyH_take (i := 11) (oi := _) (v := ?_) rfl (by kernel_rfl) (by kernel_rfl) (by kernel_rfl) (fun _ _ _ h => h) (Or.inl ⟨by rfl, ?_⟩) (by assumption) ?_
    rotate_left
    · (intro w hSw; (try dsimp only at hSw); (try go_simp); (try with_reducible rfl))
    (try simp only [Act.put, List.getElem_toArray, List.getElem_cons_succ, List.getElem_cons_zero, List.setIfInBounds_toArray, List.set_cons_zero, List.set_cons_succ])
    refine wpAnyH_take (i := 12) (oi := _) (v := ?_) rfl (by kernel_rfl) (by kernel_rfl) (by kernel_rfl) (fun _ _ _ h => h) (Or.inl ⟨by rfl, ?_⟩) (by assumption) ?_
    rotate_left
    · (intro w hSw; (try dsimp only at hSw); (try go_simp); (try with_reducible rfl))
    (try simp only [Act.put, List.getElem_toArray, List.getElem_cons_succ, List.getElem_cons_zero, List.setIfInBounds_toArray, List.set_cons_zero, List.set_cons_succ])
    refine wpAnyH_take (i := 13) (oi := _) (v := ?_) rfl (by kernel_rfl) (by kernel_rfl) (by kernel_rfl) (fun _ _ _ h => h) (Or.inl ⟨by rfl, ?_⟩) (by assumption) ?_
    rotate_left
    · (intro w hSw; (try dsimp only at hSw); (try go_simp); (try with_reducible rfl))
    (try simp only [Act.put, List.getElem_toArray, List.getElem_cons_succ, List.getElem_cons_zero, List.setIfInBounds_toArray, List.set_cons_zero, List.set_cons_succ])
    refine wpAnyH_take (i := 14) (oi := _) (v := ?_) rfl (by kernel_rfl) (by kernel_rfl) (by kernel_rfl) (fun _ _ _ h => h) (Or.inl ⟨by rfl, ?_⟩) (by assumption) ?_
    rotate_left
    · (intro w hSw; (try dsimp only at hSw); (try go_simp); (try with_reducible rfl))
    (try simp only [Act.put, List.getElem_toArray, List.getElem_cons_succ, List.getElem_cons_zero, List.setIfInBounds_toArray, List.set_cons_zero, List.set_cons_succ])
    refine wpAnyH_take (i := 15) (oi := _) (v := ?_) rfl (by kernel_rfl) (by kernel_rfl) (by kernel_rfl) (fun _ _ _ h => h) (Or.inl ⟨by rfl, ?_⟩) (by assumption) ?_
    rotate_left
    · (intro w hSw; (try dsimp only at hSw); (try go_simp); (try with_reducible rfl))
    (try simp only [Act.put, List.getElem_toArray, List.getElem_cons_succ, List.getElem_cons_zero, List.setIfInBounds_toArray, List.set_cons_zero, List.set_cons_succ])
    refine wpAnyH_take (i := 16) (oi := _) (v := ?_) rfl (by kernel_rfl) (by kernel_rfl) (by kernel_rfl) (fun _ _ _ h => h) (Or.inl ⟨by rfl, ?_⟩) (by assumption) ?_
    rotate_left
    · (intro w hSw; (try dsimp only at hSw); (try go_simp); (try with_reducible rfl))
    (try simp only [Act.put, List.getElem_toArray, List.getElem_cons_succ, List.getElem_cons_zero, List.setIfInBounds_toArray, List.set_cons_zero, List.set_cons_succ])
    refine wpAnyH_ready (rs := [17]) (by kernel_rfl) (by simp) ?_
    refine AllReadyH.cons (o := _) rfl (fun K hK => ?_) ?_
    · go_simp
      (with_reducible refine (sameT (Vx.out.ext hE) (Va.out.ext hE) rfl).mono ?_); rintro e y1 ⟨rfl, hy⟩; have hE := hE.trans hy
      refine hK.out _ _ ?_ (fun hHeld2 => ?_)
      · (first | exact ⟨cell_ext hy hHeld.1, cell_ext hy hHeld.2.1, cell_ext hy hHeld.2.2.1, cell_ext hy hHeld.2.2.2.1, cell_ext hy hHeld.2.2.2.2.1, cell_ext hy hHeld.2.2.2.2.2⟩ | exact ⟨ca0, ca1, cb0, cb1, cx0, cx1⟩ | exact hHeld)
      clear hK K hHeld
      have hHeld := hHeld2
      clear hHeld2
      (try simp only [Act.put, List.getElem_toArray, List.getElem_cons_succ, List.getElem_cons_zero, List.setIfInBounds_toArray, List.set_cons_zero, List.set_cons_succ])
      refine wpAnyH_take (i := 18) (oi := _) (v := ?_) rfl (by kernel_rfl) (by kernel_rfl) (by kernel_rfl) (fun _ _ _ h => h) (Or.inl ⟨by rfl, ?_⟩) (by assumption) ?_
      rotate_left
      · (intro w hSw; (try dsimp only at hSw); (try go_simp); (try with_reducible rfl))
      (try simp only [Act.put, List.getElem_toArray, List.getElem_cons_succ, List.getElem_cons_zero, List.setIfInBounds_toArray, List.set_cons_zero, List.set_cons_succ])
      refine wpAnyH_take (i := 19) (oi := _) (v := ?_) rfl (by kernel_rfl) (by kernel_rfl) (by kernel_rfl) (fun _ _ _ h => h) (Or.inl ⟨by rfl, ?_⟩) (by assumption) ?_
      rotate_left
      · (intro w hSw; (try dsimp only at hSw); (try go_simp); (try with_reducible rfl))
      (try simp only [Act.put, List.getElem_toArray, List.getElem_cons_succ, List.getElem_cons_zero, List.setIfInBounds_toArray, List.set_cons_zero, List.set_cons_succ])
      refine wpAnyH_take (i := 20) (oi := _) (v := ?_) rfl (by kernel_rfl) (by kernel_rfl) (by kernel_rfl) (fun _ _ _ h => h) (Or.inl ⟨by rfl, ?_⟩) (by assumption) ?_
      rotate_left
      · (intro w hSw; (try dsimp only at hSw); (try go_simp); (try with_reducible rfl))
      (try simp only [Act.put, List.getElem_toArray, List.getElem_cons_succ, List.getElem_cons_zero, List.setIfInBounds_toArray, List.set_cons_zero, List.set_cons_succ])
      refine wpAnyH_take (i := 21) (oi := _) (v := ?_) rfl (by kernel_rfl) (by kernel_rfl) (by kernel_rfl) (fun _ _ _ h => h) (Or.inl ⟨by rfl, ?_⟩) (by assumption) ?_
      rotate_left
      · (intro w hSw; (try dsimp only at hSw); (try go_simp); (try with_reducible rfl))
      (try simp only [Act.put, List.getElem_toArray, List.getElem_cons_succ, List.getElem_cons_zero, List.setIfInBounds_toArray, List.set_cons_zero, List.set_cons_succ])
      refine wpAnyH_take (i := 22) (oi := _) (v := ?_) rfl (by kernel_rfl) (by kernel_rfl) (by kernel_rfl) (fun _ _ _ h => h) (Or.inl ⟨by rfl, ?_⟩) (by assumption) ?_
      rotate_left
      · (intro w hSw; (try dsimp only at hSw); (try go_simp); (try with_reducible rfl))
      (try simp only [Act.put, List.getElem_toArray, List.getElem_cons_succ, List.getElem_cons_zero, List.setIfInBounds_toArray, List.set_cons_zero, List.set_cons_succ])
      refine wpAnyH_take (i := 23) (oi := _) (v := ?_) rfl (by kernel_rfl) (by kernel_rfl) (by kernel_rfl) (fun _ _ _ h => h) (Or.inl ⟨by rfl, ?_⟩) (by assumption) ?_
      rotate_left
      · (intro w hSw; (try dsimp only at hSw); (try go_simp); (try with_reducible rfl))
      (try simp only [Act.put, List.getElem_toArray, List.getElem_cons_succ, List.getElem_cons_zero, List.setIfInBounds_toArray, List.set_cons_zero, List.set_cons_succ])
      refine wpAnyH_take (i := 24) (oi := _) (v := ?_) rfl (by kernel_rfl) (by kernel_rfl) (by kernel_rfl) (fun _ _ _ h => h) (Or.inl ⟨by rfl, ?_⟩) (by assumption) ?_
      rotate_left
      · (intro w hSw; (try dsimp only at hSw); (try go_simp); (try with_reducible rfl))
      (try simp only [Act.put, List.getElem_toArray, List.getElem_cons_succ, List.getElem_cons_zero, List.setIfInBounds_toArray, List.set_cons_zero, List.set_cons_succ])
      refine wpAnyH_ready (rs := [25]) (by kernel_rfl) (by simp) ?_
      refine AllReadyH.cons (o := _) rfl (fun K hK => ?_) ?_
      · go_simp
        (with_reducible refine (ref_Same_gen (Va.out.ext hE) (Vb.out.ext hE)).mono ?_); rintro e y2 ⟨rfl, hy⟩; rw [HEQ.out]; have hE := hE.trans hy
        refine hK.out _ _ ?_ (fun hHeld2 => ?_)
        · (first | exact ⟨cell_ext hy hHeld.1, cell_ext hy hHeld.2.1, cell_ext hy hHeld.2.2.1, cell_ext hy hHeld.2.2.2.1, cell_ext hy hHeld.2.2.2.2.1, cell_ext hy hHeld.2.2.2.2.2⟩ | exact ⟨ca0, ca1, cb0, cb1, cx0, cx1⟩ | exact hHeld)
        clear hK K hHeld
        have hHeld := hHeld2
        clear hHeld2
        (try simp only [Act.put, List.getElem_toArray, List.getElem_cons_succ, List.getElem_cons_zero, List.setIfInBounds_toArray, List.set_cons_zero, List.set_cons_succ])
        refine wpAnyH_take (i := 26) (oi := _) (v := ?_) rfl (by kernel_rfl) (by kernel_rfl) (by kernel_rfl) (fun _ _ _ h => h) (Or.inl ⟨by rfl, ?_⟩) (by assumption) ?_
        rotate_left
        · (intro w hSw; (try dsimp only at hSw); (try go_simp); (try with_reducible rfl))
        (try simp only [Act.put, List.getElem_toArray, List.getElem_cons_succ, List.getElem_cons_zero, List.setIfInBounds_toArray, List.set_cons_zero, List.set_cons_succ])
        refine wpAnyH_take (i := 27) (oi := _) (v := ?_) rfl (by kernel_rfl) (by kernel_rfl) (by kernel_rfl) (fun _ _ _ h => h) (Or.inl ⟨by rfl, ?_⟩) (by assumption) ?_
        rotate_left
        · (intro w hSw; (try dsimp only at hSw); (try go_simp); (try with_reducible rfl))
        (try simp only [Act.put, List.getElem_toArray, List.getElem_cons_succ, List.getElem_cons_zero, List.setIfInBounds_toArray, List.set_cons_zero, List.set_cons_succ])
        refine wpAnyH_take (i := 28) (oi := _) (v := ?_) rfl (by kernel_rfl) (by kernel_rfl) (by kernel_rfl) (fun _ _ _ h => h) (Or.inl ⟨by rfl, ?_⟩) (by assumption) ?_
        rotate_left
        · (intro w hSw; (try dsimp only at hSw); (try go_simp); (try with_reducible rfl))
        (try simp only [Act.put, List.getElem_toArray, List.getElem_cons_succ, List.getElem_cons_zero, List.setIfInBounds_toArray, List.set_cons_zero, List.set_cons_succ])
        refine wpAnyH_take (i := 29) (oi := _) (v := ?_) rfl (by kernel_rfl) (by kernel_rfl) (by kernel_rfl) (fun _ _ _ h => h) (Or.inl ⟨by rfl, ?_⟩) (by assumption) ?_
        rotate_left
        · (intro w hSw; (try dsimp only at hSw); (try go_simp); (try with_reducible rfl))
        (try simp only [Act.put, List.getElem_toArray, List.getElem_cons_succ, List.getElem_cons_zero, List.setIfInBounds_toArray, List.set_cons_zero, List.set_cons_succ])
        refine wpAnyH_take (i := 30) (oi := _) (v := ?_) rfl (by kernel_rfl) (by kernel_rfl) (by kernel_rfl) (fun _ _ _ h => h) (Or.inl ⟨by rfl, ?_⟩) (by assumption) ?_
        rotate_left
        · (intro w hSw; (try dsimp only at hSw); (try go_simp); (try with_reducible rfl))
        (try simp only [Act.put, List.getElem_toArray, List.getElem_cons_succ, List.getElem_cons_zero, List.setIfInBounds_toArray, List.set_cons_zero, List.set_cons_succ])
        refine wpAnyH_take (i := 31) (oi := _) (v := ?_) rfl (by kernel_rfl) (by kernel_rfl) (by kernel_rfl) (fun _ _ _ h => h) (Or.inl ⟨by rfl, ?_⟩) (by assumption) ?_
        rotate_left
        · (intro w hSw; (try dsimp only at hSw); (try go_simp); (try with_reducible rfl))
        (try simp only [Act.put, List.getElem_toArray, List.getElem_cons_succ, List.getElem_cons_zero, List.setIfInBounds_toArray, List.set_cons_zero, List.set_cons_succ])
        refine wpAnyH_take (i := 32) (oi := _) (v := ?_) rfl (by kernel_rfl) (by kernel_rfl) (by kernel_rfl) (fun _ _ _ h => h) (Or.inl ⟨by rfl, ?_⟩) (by assumption) ?_
        rotate_left
        · (intro w hSw; (try dsimp only at hSw); (try go_simp); (try with_reducible rfl))
        (try simp only [Act.put, List.getElem_toArray, List.getElem_cons_succ, List.getElem_cons_zero, List.setIfInBounds_toArray, List.set_cons_zero, List.set_cons_succ])
        refine wpAnyH_take (i := 34) (oi := _) (v := ?_) rfl (by kernel_rfl) (by kernel_rfl) (by kernel_rfl) (fun _ _ _ h => h) (Or.inl ⟨by rfl, ?_⟩) (by assumption) ?_
        rotate_left
        · (intro w hSw; (try dsimp only at hSw); (try go_simp); (try with_reducible rfl))
        (try simp only [Act.put, List.getElem_toArray, List.getElem_cons_succ, List.getElem_cons_zero, List.setIfInBounds_toArray, List.set_cons_zero, List.set_cons_succ])
        refine wpAnyH_ready (rs := [33]) (by kernel_rfl) (by simp) ?_
        refine AllReadyH.cons (o := _) rfl (fun K hK => ?_) ?_
        · go_simp
          (with_reducible refine (HMK2.out _).mono ?_); rintro e y3 ⟨vk, rfl, hvk, hy⟩; have hE := hE.trans hy
          refine hK.out _ _ ?_ (fun hHeld2 => ?_)
          · (first | exact ⟨cell_ext hy hHeld.1, cell_ext hy hHeld.2.1, cell_ext hy hHeld.2.2.1, cell_ext hy hHeld.2.2.2.1, cell_ext hy hHeld.2.2.2.2.1, cell_ext hy hHeld.2.2.2.2.2⟩ | exact ⟨ca0, ca1, cb0, cb1, cx0, cx1⟩ | exact hHeld)
          clear hK K hHeld
          have hHeld := hHeld2
          clear hHeld2
          (try simp only [Act.put, List.getElem_toArray, List.getElem_cons_succ, List.getElem_cons_zero, List.setIfInBounds_toArray, List.set_cons_zero, List.set_cons_succ])
          refine wpAnyH_ready (rs := [35]) (by kernel_rfl) (by simp) ?_
          refine AllReadyH.cons (o := _) rfl (fun K hK => ?_) ?_
          · go_simp
            (with_reducible refine (sameT hvk.val (Va.out.ext hE) HFE.out).mono ?_); rintro e y4 ⟨rfl, hy⟩; have hE := hE.trans hy
            refine hK.out _ _ ?_ (fun hHeld2 => ?_)
            · (first | exact ⟨cell_ext hy hHeld.1, cell_ext hy hHeld.2.1, cell_ext hy hHeld.2.2.1, cell_ext hy hHeld.2.2.2.1, cell_ext hy hHeld.2.2.2.2.1, cell_ext hy hHeld.2.2.2.2.2⟩ | exact ⟨ca0, ca1, cb0, cb1, cx0, cx1⟩ | exact hHeld)
            clear hK K hHeld
            have hHeld := hHeld2
            clear hHeld2
            (try simp only [Act.put, List.getElem_toArray, List.getElem_cons_succ, List.getElem_cons_zero, List.setIfInBounds_toArray, List.set_cons_zero, List.set_cons_succ])
            refine wpAnyH_take (i := 36) (oi := _) (v := ?_) rfl (by kernel_rfl) (by kernel_rfl) (by kernel_rfl) (fun _ _ _ h => h) (Or.inl ⟨by rfl, ?_⟩) (by assumption) ?_
            rotate_left
            · (intro w hSw; (try dsimp only at hSw); (try go_simp); (try with_reducible rfl))
            (try simp only [Act.put, List.getElem_toArray, List.getElem_cons_succ, List.getElem_cons_zero, List.setIfInBounds_toArray, List.set_cons_zero, List.set_cons_succ])
            refine wpAnyH_take (i := 37) (oi := _) (v := ?_) rfl (by kernel_rfl) (by kernel_rfl) (by kernel_rfl) (fun _ _ _ h => h) (Or.inl ⟨by rfl, ?_⟩) (by assumption) ?_
            rotate_left
            · (intro w hSw; (try dsimp only at hSw); (try go_simp); (try with_reducible rfl))
            (try simp only [Act.put, List.getElem_toArray, List.getElem_cons_succ, List.getElem_cons_zero, List.setIfInBounds_toArray, List.set_cons_zero, List.set_cons_succ])
            refine wpAnyH_take (i := 38) (oi := _) (v := ?_) rfl (by kernel_rfl) (by kernel_rfl) (by kernel_rfl) (fun _ _ _ h => h) (Or.inl ⟨by rfl, ?_⟩) (by assumption) ?_
            rotate_left
            · (intro w hSw; (try dsimp only at hSw); (try go_simp); (try with_reducible rfl))
            (try simp only [Act.put, List.getElem_toArray, List.getElem_cons_succ, List.getElem_cons_zero, List.setIfInBounds_toArray, List.set_cons_zero, List.set_cons_succ])
            refine wpAnyH_done (by kernel_rfl) ?_ _
            (go_wp2_with fail; go_ret; exact ⟨rfl, hx.trans hE⟩)
          exact AllReadyH.nil
        exact AllReadyH.nil
      exact AllReadyH.nil
    exact AllReadyH.nil
set_option maxHeartbeats 2000000 in
theorem law_BackB0 (na nb : Bool) (aa ab : Option Addr) (qa qb ca cb : Nat) (l m : List Int) (n : Int) (s : ByteArray) (w : World) (ha : Ints w aa ca l) (hb : Ints w ab cb m) (la : l.length = qa) (lb : m.length = qb) (hn : -9223372036854775808 ≤ n ∧ n ≤ 9223372036854775807) (hs : s.size ≤ 200 ∧ readL s.data.toList = none) (hv : okA ⟨na, aa, ca, l⟩ = false ∨ okA ⟨nb, ab, cb, m⟩ = false) :
    Calls Tryd.prog 5 #[.agg #[.bool na, .slice aa qa ca], .agg #[.bool nb, .slice ab qb cb], .int .i64 n, .string s] w fun e w' => e = .returned (.bool true) ∧ Ext w w' := by
  have HI := Lib.hid ha
  have HJ := Lib.hid hb
  have HLA := Lib.hid la
  have HLB := Lib.hid lb
  have HNN := Lib.hid hn
  have HV := Lib.hid hv
  have t1 : decide (s.size ≤ 200) = true := by simpa using hs.1
  have t2 : decide ((s.size : Int) ≤ 200) = true := by simp only [decide_eq_true_eq]; omega
  have HR := Lib.hid (fun W => (read_val s W (by omega)).mono fun _ _ hh => hh.1 hs.2)
  clear la lb ha hb hv hs
  have hx : Ext w (((w).alloc (.cells #[.bool na, .slice aa qa ca] 24)).alloc (.cells #[.bool nb, .slice ab qb cb] 24)) := (by repeat (first | with_reducible exact Ext.refl _ | with_reducible assumption | with_reducible refine Ext.drewN ?_ _ | with_reducible refine Ext.drew ?_ | with_reducible refine Ext.alloc' ?_ _ | with_reducible refine Ext.set ?_ (by dsimp only; omega) _))
  have Ka : Blk (((w).alloc (.cells #[.bool na, .slice aa qa ca] 24)).alloc (.cells #[.bool nb, .slice ab qb cb] 24)) (w.heap.size) #[.bool na, .slice aa qa ca] 24 := by have h := (Blk.new0 (w) #[.bool na, .slice aa qa ca] 24).alloc (.cells #[.bool nb, .slice ab qb cb] 24); simpa [Nat.add_assoc] using h
  have Ka := Lib.hid Ka
  have Kb : Blk (((w).alloc (.cells #[.bool na, .slice aa qa ca] 24)).alloc (.cells #[.bool nb, .slice ab qb cb] 24)) (w.heap.size + 1) #[.bool nb, .slice ab qb cb] 24 := by have h := Blk.new0 ((w).alloc (.cells #[.bool na, .slice aa qa ca] 24)) #[.bool nb, .slice ab qb cb] 24; simpa [Nat.add_assoc] using h
  have Kb := Lib.hid Kb
  go_enter Tryd.func5, Tryd.ntmps5
  go_upto_region 1 with fail
  try simp only [Nat.add_assoc, Nat.reduceAdd, Nat.add_zero]
  generalize ((w).alloc (.cells #[.bool na, .slice aa qa ca] 24)).alloc (.cells #[.bool nb, .slice ab qb cb] 24) = x16 at *
  go_wp2_with fail
  with_reducible refine (law09Sane _).mono ?_
  rintro e x17 ⟨rfl, hy⟩
  have hx := hx.trans hy
  have Ka := Lib.hid (Ka.out.ext hy)
  have Kb := Lib.hid (Kb.out.ext hy)
  clear hy
  have hI1 := fun W => nat_Make n W hn
  have HMK := Lib.hid hI1
  clear hI1
  go_wp2_with fail
  with_reducible refine (HMK.out _).mono ?_
  rintro e x18 ⟨v, rfl, hv, hy⟩
  have hv := hv.val
  have hx := hx.trans hy
  have Ka := Lib.hid (Ka.out.ext hy)
  have Kb := Lib.hid (Kb.out.ext hy)
  clear hy
  obtain ⟨ny, ay, qy, cy, rfl⟩ := hv.form
  have Vy := Lib.hid hv
  clear hv
  go_wp2_with fail
  with_reducible refine (int_of_make Vy.out HNN.out).mono ?_
  rintro e x19 ⟨rfl, hy⟩
  have hx := hx.trans hy
  have Ka := Lib.hid (Ka.out.ext hy)
  have Kb := Lib.hid (Kb.out.ext hy)
  have Vy := Lib.hid (Vy.out.ext hy)
  clear hy
  clear Vy
  go_upto_region 6 with fail
  go_wp2_with fail
  with_reducible refine (HR.out _).mono ?_
  rintro e x20 ⟨rfl, hy⟩
  have hx := hx.trans hy
  have Ka := Lib.hid (Ka.out.ext hy)
  have Kb := Lib.hid (Kb.out.ext hy)
  clear hy
  go_upto_region 8 with fail
  have hl := Ext.alloc x20 (.cells #[.bool false, .slice none 0 0] 24)
  have hx := hx.trans hl
  have Ka := Lib.hid (Ka.out.ext hl)
  have Kb := Lib.hid (Kb.out.ext hl)
  have Kr := Lib.hid (Blk.new0 x20 #[.bool false, .slice none 0 0] 24)
  clear hl
  generalize x20.alloc (.cells #[.bool false, .slice none 0 0] 24) = x21 at *
  generalize x20.heap.size = pr at *
  have cr0 := Kr.out.cell (i := 0) (v := .bool false) rfl
  have cr1 := Kr.out.cell (i := 1) (v := .slice none 0 0) rfl
  go_wp2_with fail
  with_reducible refine (sameT (BigV.zero _) (BigV.zero _) rfl).mono ?_
  rintro e x22 ⟨rfl, hy⟩
  have hx := hx.trans hy
  have Ka := Lib.hid (Ka.out.ext hy)
  have Kb := Lib.hid (Kb.out.ext hy)
  have Kr := Lib.hid (Kr.out.ext hy)
  clear hy
  clear cr0 cr1
  clear Kr
  go_upto_region 14 with fail
  have ca0 := Ka.out.cell (i := 0) (v := .bool na) rfl
  have ca1 := Ka.out.cell (i := 1) (v := .slice aa qa ca) rfl
  have cb0 := Kb.out.cell (i := 0) (v := .bool nb) rfl
  have cb1 := Kb.out.cell (i := 1) (v := .slice ab qb cb) rfl
  have hl := Ext.alloc x22 (.cells #[.bool na, .slice aa qa ca, .bool nb, .slice ab qb cb] 24)
  have hrow : BigRow (x22.alloc (.cells #[.bool na, .slice aa qa ca, .bool nb, .slice ab qb cb] 24)) x22.heap.size [⟨na, aa, ca, l⟩, ⟨nb, ab, cb, m⟩] := by
    have hB := Blk.new0 x22 #[.bool na, .slice aa qa ca, .bool nb, .slice ab qb cb] 24
    rw [← HLA.out, ← HLB.out] at hB ⊢
    refine bigRow2 hB (HI.out.ext ?_) (HJ.out.ext ?_)
    · have h := hx.trans hl
      rw [← HLA.out, ← HLB.out] at h; exact h
    · have h := hx.trans hl
      rw [← HLA.out, ← HLB.out] at h; exact h
  have HROW := Lib.hid hrow
  clear hrow
  have HVAL := Lib.hid (law_valid_no _ _ _ HROW.out (by simp) (by
    simp only [List.any_cons, List.any_nil, Bool.or_false]
    rcases HV.out with h | h
    · rw [h]; rfl
    · rw [h]; simp))
  simp only [List.length_cons, List.length_nil, Nat.zero_add, Nat.reduceAdd] at HVAL
  go_wp2_with fail
  with_reducible refine (HVAL.out).mono ?_
  rintro e x23 ⟨rfl, hy⟩
  have hx := hx.trans (hl.trans hy)
  have Ka := Lib.hid (Ka.out.ext (hl.trans hy))
  have Kb := Lib.hid (Kb.out.ext (hl.trans hy))
  clear hl hy HROW HVAL
  clear ca0 ca1 cb0 cb1
  go_wp2_with fail
  go_ret
  exact ⟨rfl, hx⟩
set_option maxHeartbeats 2000000 in
theorem law_BackB1 (na nb : Bool) (aa ab : Option Addr) (qa qb ca cb : Nat) (l m : List Int) (n : Int) (s : ByteArray) (w : World) (ha : Ints w aa ca l) (hb : Ints w ab cb m) (la : l.length = qa) (lb : m.length = qb) (hn : -9223372036854775808 ≤ n ∧ n ≤ 9223372036854775807) (hs : s.size ≤ 200 ∧ readL s.data.toList = none) (hv : okA ⟨na, aa, ca, l⟩ = true ∧ okA ⟨nb, ab, cb, m⟩ = true) :
    Calls Tryd.prog 5 #[.agg #[.bool na, .slice aa qa ca], .agg #[.bool nb, .slice ab qb cb], .int .i64 n, .string s] w fun e w' => e = .returned (.bool true) ∧ Ext w w' := by
  have HI := Lib.hid ha
  have HJ := Lib.hid hb
  have HLA := Lib.hid la
  have HLB := Lib.hid lb
  have HNN := Lib.hid hn
  have HV := Lib.hid hv
  have t1 : decide (s.size ≤ 200) = true := by simpa using hs.1
  have t2 : decide ((s.size : Int) ≤ 200) = true := by simp only [decide_eq_true_eq]; omega
  have HR := Lib.hid (fun W => (read_val s W (by omega)).mono fun _ _ hh => hh.1 hs.2)
  clear la lb ha hb hv hs
  have hx : Ext w (((w).alloc (.cells #[.bool na, .slice aa qa ca] 24)).alloc (.cells #[.bool nb, .slice ab qb cb] 24)) := (by repeat (first | with_reducible exact Ext.refl _ | with_reducible assumption | with_reducible refine Ext.drewN ?_ _ | with_reducible refine Ext.drew ?_ | with_reducible refine Ext.alloc' ?_ _ | with_reducible refine Ext.set ?_ (by dsimp only; omega) _))
  have Ka : Blk (((w).alloc (.cells #[.bool na, .slice aa qa ca] 24)).alloc (.cells #[.bool nb, .slice ab qb cb] 24)) (w.heap.size) #[.bool na, .slice aa qa ca] 24 := by have h := (Blk.new0 (w) #[.bool na, .slice aa qa ca] 24).alloc (.cells #[.bool nb, .slice ab qb cb] 24); simpa [Nat.add_assoc] using h
  have Ka := Lib.hid Ka
  have Kb : Blk (((w).alloc (.cells #[.bool na, .slice aa qa ca] 24)).alloc (.cells #[.bool nb, .slice ab qb cb] 24)) (w.heap.size + 1) #[.bool nb, .slice ab qb cb] 24 := by have h := Blk.new0 ((w).alloc (.cells #[.bool na, .slice aa qa ca] 24)) #[.bool nb, .slice ab qb cb] 24; simpa [Nat.add_assoc] using h
  have Kb := Lib.hid Kb
  go_enter Tryd.func5, Tryd.ntmps5
  go_upto_region 1 with fail
  try simp only [Nat.add_assoc, Nat.reduceAdd, Nat.add_zero]
  generalize ((w).alloc (.cells #[.bool na, .slice aa qa ca] 24)).alloc (.cells #[.bool nb, .slice ab qb cb] 24) = x24 at *
  go_wp2_with fail
  with_reducible refine (law09Sane _).mono ?_
  rintro e x25 ⟨rfl, hy⟩
  have hx := hx.trans hy
  have Ka := Lib.hid (Ka.out.ext hy)
  have Kb := Lib.hid (Kb.out.ext hy)
  clear hy
  have hI1 := fun W => nat_Make n W hn
  have HMK := Lib.hid hI1
  clear hI1
  go_wp2_with fail
  with_reducible refine (HMK.out _).mono ?_
  rintro e x26 ⟨v, rfl, hv, hy⟩
  have hv := hv.val
  have hx := hx.trans hy
  have Ka := Lib.hid (Ka.out.ext hy)
  have Kb := Lib.hid (Kb.out.ext hy)
  clear hy
  obtain ⟨ny, ay, qy, cy, rfl⟩ := hv.form
  have Vy := Lib.hid hv
  clear hv
  go_wp2_with fail
  with_reducible refine (int_of_make Vy.out HNN.out).mono ?_
  rintro e x27 ⟨rfl, hy⟩
  have hx := hx.trans hy
  have Ka := Lib.hid (Ka.out.ext hy)
  have Kb := Lib.hid (Kb.out.ext hy)
  have Vy := Lib.hid (Vy.out.ext hy)
  clear hy
  clear Vy
  go_upto_region 6 with fail
  go_wp2_with fail
  with_reducible refine (HR.out _).mono ?_
  rintro e x28 ⟨rfl, hy⟩
  have hx := hx.trans hy
  have Ka := Lib.hid (Ka.out.ext hy)
  have Kb := Lib.hid (Kb.out.ext hy)
  clear hy
  go_upto_region 8 with fail
  have hl := Ext.alloc x28 (.cells #[.bool false, .slice none 0 0] 24)
  have hx := hx.trans hl
  have Ka := Lib.hid (Ka.out.ext hl)
  have Kb := Lib.hid (Kb.out.ext hl)
  have Kr := Lib.hid (Blk.new0 x28 #[.bool false, .slice none 0 0] 24)
  clear hl
  generalize x28.alloc (.cells #[.bool false, .slice none 0 0] 24) = x29 at *
  generalize x28.heap.size = pr at *
  have cr0 := Kr.out.cell (i := 0) (v := .bool false) rfl
  have cr1 := Kr.out.cell (i := 1) (v := .slice none 0 0) rfl
  go_wp2_with fail
  with_reducible refine (sameT (BigV.zero _) (BigV.zero _) rfl).mono ?_
  rintro e x30 ⟨rfl, hy⟩
  have hx := hx.trans hy
  have Ka := Lib.hid (Ka.out.ext hy)
  have Kb := Lib.hid (Kb.out.ext hy)
  have Kr := Lib.hid (Kr.out.ext hy)
  clear hy
  clear cr0 cr1
  clear Kr
  go_upto_region 14 with fail
  have ca0 := Ka.out.cell (i := 0) (v := .bool na) rfl
  have ca1 := Ka.out.cell (i := 1) (v := .slice aa qa ca) rfl
  have cb0 := Kb.out.cell (i := 0) (v := .bool nb) rfl
  have cb1 := Kb.out.cell (i := 1) (v := .slice ab qb cb) rfl
  have hl := Ext.alloc x30 (.cells #[.bool na, .slice aa qa ca, .bool nb, .slice ab qb cb] 24)
  have hrow : BigRow (x30.alloc (.cells #[.bool na, .slice aa qa ca, .bool nb, .slice ab qb cb] 24)) x30.heap.size [⟨na, aa, ca, l⟩, ⟨nb, ab, cb, m⟩] := by
    have hB := Blk.new0 x30 #[.bool na, .slice aa qa ca, .bool nb, .slice ab qb cb] 24
    rw [← HLA.out, ← HLB.out] at hB ⊢
    refine bigRow2 hB (HI.out.ext ?_) (HJ.out.ext ?_)
    · have h := hx.trans hl
      rw [← HLA.out, ← HLB.out] at h; exact h
    · have h := hx.trans hl
      rw [← HLA.out, ← HLB.out] at h; exact h
  have HROW := Lib.hid hrow
  clear hrow
  have HVAL := Lib.hid (law_valid_yes _ _ _ HROW.out (by simp) (by
    intro x hx
    simp only [List.mem_cons, List.not_mem_nil, or_false] at hx
    rcases hx with rfl | rfl
    · exact HV.out.1
    · exact HV.out.2))
  simp only [List.length_cons, List.length_nil, Nat.zero_add, Nat.reduceAdd] at HVAL
  go_wp2_with fail
  with_reducible refine (HVAL.out).mono ?_
  rintro e x31 ⟨rfl, hy⟩
  have hx := hx.trans (hl.trans hy)
  have Ka := Lib.hid (Ka.out.ext (hl.trans hy))
  have Kb := Lib.hid (Kb.out.ext (hl.trans hy))
  clear hl hy HROW HVAL
  clear ca0 ca1 cb0 cb1
  obtain ⟨hBa, hDa⟩ := okA_z HV.out.1
  obtain ⟨za, hza⟩ : ∃ z, sgn na (dval l) = z := ⟨_, rfl⟩
  have Va : Hid (BigV x31 (.agg #[.bool na, .slice aa qa ca]) za) := Lib.hid ⟨na, l, ⟨aa, ca, by rw [HLA.out], HI.out.ext hx⟩, by rw [← hza]; exact hBa⟩
  have Da : Hid ((digs za.natAbs).length ≤ 12) := Lib.hid (by rw [← hza]; exact hDa)
  clear hBa hDa hza
  obtain ⟨hBb, hDb⟩ := okA_z HV.out.2
  obtain ⟨zb, hzb⟩ : ∃ z, sgn nb (dval m) = z := ⟨_, rfl⟩
  have Vb : Hid (BigV x31 (.agg #[.bool nb, .slice ab qb cb]) zb) := Lib.hid ⟨nb, m, ⟨ab, cb, by rw [HLB.out], HJ.out.ext hx⟩, by rw [← hzb]; exact hBb⟩
  have Db : Hid ((digs zb.natAbs).length ≤ 12) := Lib.hid (by rw [← hzb]; exact hDb)
  clear hBb hDb hzb
  have La : Hid (Len za) := Lib.hid (Nat.le_trans Da.out (by omega))
  have Lb : Hid (Len zb) := Lib.hid (Nat.le_trans Db.out (by omega))
  obtain ⟨TA, hTA⟩ : ∃ T : ByteArray, ⟨(txtL za).toArray⟩ = T := ⟨_, rfl⟩
  have HTA := Lib.hid (show TA.data.toList = txtL za by rw [← hTA])
  have HCTA := Lib.hid (fun W (h : BigV W (.agg #[.bool na, .slice aa qa ca]) za) => text_val h La.out)
  unfold TextP at HCTA
  rw [hTA] at HCTA
  clear hTA
  have ca0 := Ka.out.cell (i := 0) (v := .bool na) rfl
  have ca1 := Ka.out.cell (i := 1) (v := .slice aa qa ca) rfl
  go_wp2_with fail
  with_reducible refine (HCTA.out _ Va.out).mono ?_
  rintro e x32 ⟨rfl, hy⟩
  have hx := hx.trans hy
  have Ka := Lib.hid (Ka.out.ext hy)
  have Kb := Lib.hid (Kb.out.ext hy)
  have Va := Lib.hid (Va.out.ext hy)
  have Vb := Lib.hid (Vb.out.ext hy)
  clear hy
  clear ca0 ca1
  obtain ⟨TB, hTB⟩ : ∃ T : ByteArray, ⟨(txtL zb).toArray⟩ = T := ⟨_, rfl⟩
  have HTB := Lib.hid (show TB.data.toList = txtL zb by rw [← hTB])
  have HCTB := Lib.hid (fun W (h : BigV W (.agg #[.bool nb, .slice ab qb cb]) zb) => text_val h Lb.out)
  unfold TextP at HCTB
  rw [hTB] at HCTB
  clear hTB
  have cb0 := Kb.out.cell (i := 0) (v := .bool nb) rfl
  have cb1 := Kb.out.cell (i := 1) (v := .slice ab qb cb) rfl
  go_wp2_with fail
  with_reducible refine (HCTB.out _ Vb.out).mono ?_
  rintro e x33 ⟨rfl, hy⟩
  have hx := hx.trans hy
  have Ka := Lib.hid (Ka.out.ext hy)
  have Kb := Lib.hid (Kb.out.ext hy)
  have Va := Lib.hid (Va.out.ext hy)
  have Vb := Lib.hid (Vb.out.ext hy)
  clear hy
  clear cb0 cb1
  have HRD : Hid (∀ W, Calls Tryd.prog 23 #[.string TA] W (OneP za W)) := Lib.hid (fun W => (read_val TA W (by rw [Lib.size_eq, HTA.out]; exact txt_len Da.out)).mono fun _ _ h => h.2 za (by rw [HTA.out]; exact read_text za))
  go_wp2_with fail
  with_reducible refine (HRD.out _).mono ?_
  rintro e x34 ⟨v, rfl, hv, hy⟩
  have hv := hv.val
  have hx := hx.trans hy
  have Ka := Lib.hid (Ka.out.ext hy)
  have Kb := Lib.hid (Kb.out.ext hy)
  have Va := Lib.hid (Va.out.ext hy)
  have Vb := Lib.hid (Vb.out.ext hy)
  clear hy
  obtain ⟨nx, ax, qx, cx, rfl⟩ := hv.form
  have Vx := Lib.hid hv
  clear hv
  go_upto_region 19 with fail
  have hl := Ext.alloc x34 (.cells #[.bool nx, .slice ax qx cx] 24)
  have hx := hx.trans hl
  have Ka := Lib.hid (Ka.out.ext hl)
  have Kb := Lib.hid (Kb.out.ext hl)
  have Va := Lib.hid (Va.out.ext hl)
  have Vb := Lib.hid (Vb.out.ext hl)
  have Vx := Lib.hid (Vx.out.ext hl)
  have Kx := Lib.hid (Blk.new0 x34 #[.bool nx, .slice ax qx cx] 24)
  clear hl
  generalize x34.alloc (.cells #[.bool nx, .slice ax qx cx] 24) = x35 at *
  generalize x34.heap.size = px at *
  obtain ⟨fv, hfv⟩ : ∃ v, fitV za = v := ⟨_, rfl⟩
  obtain ⟨fb, hfb⟩ : ∃ b, fitI za = b := ⟨_, rfl⟩
  have HIN := Lib.hid (fun W (h : BigV W (.agg #[.bool na, .slice aa qa ca]) za) => int_val h La.out)
  rw [hfv, hfb] at HIN
  have HFV := Lib.hid hfv
  have HFB := Lib.hid hfb
  clear hfv hfb
  have ca0 := Ka.out.cell (i := 0) (v := .bool na) rfl
  have ca1 := Ka.out.cell (i := 1) (v := .slice aa qa ca) rfl
  go_wp2_with fail
  with_reducible refine (HIN.out _ Va.out).mono ?_
  rintro e x36 ⟨rfl, hy⟩
  have hx := hx.trans hy
  have Ka := Lib.hid (Ka.out.ext hy)
  have Kb := Lib.hid (Kb.out.ext hy)
  have Va := Lib.hid (Va.out.ext hy)
  have Vb := Lib.hid (Vb.out.ext hy)
  have Vx := Lib.hid (Vx.out.ext hy)
  have Kx := Lib.hid (Kx.out.ext hy)
  clear hy
  clear ca0 ca1
  go_upto_region 20 with fail
  obtain ⟨eq, heq⟩ : ∃ b, decide (za = zb) = b := ⟨_, rfl⟩
  have hstr : (TA.toList == TB.toList) = eq := by
    rw [str_eq, HTA.out, HTB.out, ← heq]
    by_cases h : za = zb
    · rw [h]; simp
    · rw [decide_eq_false h, decide_eq_false (fun e => h (txt_inj e))]
  have HEQ := Lib.hid heq
  clear heq
  have ca0 := Ka.out.cell (i := 0) (v := .bool na) rfl
  have ca1 := Ka.out.cell (i := 1) (v := .slice aa qa ca) rfl
  have cb0 := Kb.out.cell (i := 0) (v := .bool nb) rfl
  have cb1 := Kb.out.cell (i := 1) (v := .slice ab qb cb) rfl
  have cx0 := Kx.out.cell (i := 0) (v := .bool nx) rfl
  have cx1 := Kx.out.cell (i := 1) (v := .slice ax qx cx) rfl
  have hE : Ext x36 x36.drew := (Ext.refl _).drew
  cases fb
  · skip
    refine wp_region_held_drew (S := (fun w' => w'.cell? ⟨w.heap.size, 0, none⟩ = some (.bool na) ∧ w'.cell? ⟨w.heap.size, 1, none⟩ = some (.slice aa qa ca) ∧ w'.cell? ⟨w.heap.size + 1, 0, none⟩ = some (.bool nb) ∧ w'.cell? ⟨w.heap.size + 1, 1, none⟩ = some (.slice ab qb cb) ∧ w'.cell? ⟨px, 0, none⟩ = some (.bool nx) ∧ w'.cell? ⟨px, 1, none⟩ = some (.slice ax qx cx))) (by kernel_rfl) ?_ (fun hHeld => ?_)
    · (first | exact ⟨cell_ext hy hHeld.1, cell_ext hy hHeld.2.1, cell_ext hy hHeld.2.2.1, cell_ext hy hHeld.2.2.2.1, cell_ext hy hHeld.2.2.2.2.1, cell_ext hy hHeld.2.2.2.2.2⟩ | exact ⟨ca0, ca1, cb0, cb1, cx0, cx1⟩ | exact hHeld)
    refine wpAnyH_take (i := 0) (oi := _) (v := ?_) rfl (by kernel_rfl) (by kernel_rfl) (by kernel_rfl) (fun _ _ _ h => h) (Or.inl ⟨by rfl, ?_⟩) (by assumption) ?_
    rotate_left
    · (intro w hSw; (try dsimp only at hSw); (try go_simp); (try with_reducible rfl))
    (try simp only [Act.put, List.getElem_toArray, List.getElem_cons_succ, List.getElem_cons_zero, List.setIfInBounds_toArray, List.set_cons_zero, List.set_cons_succ])
    refine wpAnyH_take (i := 1) (oi := _) (v := ?_) rfl (by kernel_rfl) (by kernel_rfl) (by kernel_rfl) (fun _ _ _ h => h) (Or.inl ⟨by rfl, ?_⟩) (by assumption) ?_
    rotate_left
    · (intro w hSw; (try dsimp only at hSw); (try go_simp); (try with_reducible rfl))
    (try simp only [Act.put, List.getElem_toArray, List.getElem_cons_succ, List.getElem_cons_zero, List.setIfInBounds_toArray, List.set_cons_zero, List.set_cons_succ])
    refine wpAnyH_take (i := 2) (oi := _) (v := ?_) rfl (by kernel_rfl) (by kernel_rfl) (by kernel_rfl) (fun _ _ _ h => h) (Or.inl ⟨by rfl, ?_⟩) (by assumption) ?_
    rotate_left
    · (intro w hSw; (try dsimp only at hSw); (try go_simp); (try with_reducible rfl))
    (try simp only [Act.put, List.getElem_toArray, List.getElem_cons_succ, List.getElem_cons_zero, List.setIfInBounds_toArray, List.set_cons_zero, List.set_cons_succ])
    refine wpAnyH_take (i := 3) (oi := _) (v := ?_) rfl (by kernel_rfl) (by kernel_rfl) (by kernel_rfl) (fun _ _ _ h => h) (Or.inl ⟨by rfl, ?_⟩) (by assumption) ?_
    rotate_left
    · (intro w hSw; (try dsimp only at hSw); (try go_simp); (try with_reducible rfl))
    (try simp only [Act.put, List.getElem_toArray, List.getElem_cons_succ, List.getElem_cons_zero, List.setIfInBounds_toArray, List.set_cons_zero, List.set_cons_succ])
    refine wpAnyH_take (i := 4) (oi := _) (v := ?_) rfl (by kernel_rfl) (by kernel_rfl) (by kernel_rfl) (fun _ _ _ h => h) (Or.inl ⟨by rfl, ?_⟩) (by assumption) ?_
    rotate_left
    · (intro w hSw; (try dsimp only at hSw); (try go_simp); (try with_reducible rfl))
    (try simp only [Act.put, List.getElem_toArray, List.getElem_cons_succ, List.getElem_cons_zero, List.setIfInBounds_toArray, List.set_cons_zero, List.set_cons_succ])
    refine wpAnyH_take (i := 5) (oi := _) (v := ?_) rfl (by kernel_rfl) (by kernel_rfl) (by kernel_rfl) (fun _ _ _ h => h) (Or.inl ⟨by rfl, ?_⟩) (by assumption) ?_
    rotate_left
    · (intro w hSw; (try dsimp only at hSw); (try go_simp); (try with_reducible rfl))
    (try simp only [Act.put, List.getElem_toArray, List.getElem_cons_succ, List.getElem_cons_zero, List.setIfInBounds_toArray, List.set_cons_zero, List.set_cons_succ])
    refine wpAnyH_take (i := 6) (oi := _) (v := ?_) rfl (by kernel_rfl) (by kernel_rfl) (by kernel_rfl) (fun _ _ _ h => h) (Or.inl ⟨by rfl, ?_⟩) (by assumption) ?_
    rotate_left
    · (intro w hSw; (try dsimp only at hSw); (try go_simp); (try with_reducible rfl))
    (try simp only [Act.put, List.getElem_toArray, List.getElem_cons_succ, List.getElem_cons_zero, List.setIfInBounds_toArray, List.set_cons_zero, List.set_cons_succ])
    refine wpAnyH_take (i := 7) (oi := _) (v := ?_) rfl (by kernel_rfl) (by kernel_rfl) (by kernel_rfl) (fun _ _ _ h => h) (Or.inl ⟨by rfl, ?_⟩) (by assumption) ?_
    rotate_left
    · (intro w hSw; (try dsimp only at hSw); (try go_simp); (try with_reducible rfl))
    (try simp only [Act.put, List.getElem_toArray, List.getElem_cons_succ, List.getElem_cons_zero, List.setIfInBounds_toArray, List.set_cons_zero, List.set_cons_succ])
    refine wpAnyH_take (i := 8) (oi := _) (v := ?_) rfl (by kernel_rfl) (by kernel_rfl) (by kernel_rfl) (fun _ _ _ h => h) (Or.inl ⟨by rfl, ?_⟩) (by assumption) ?_
    rotate_left
    · (intro w hSw; (try dsimp only at hSw); (try go_simp); (try with_reducible rfl))
    (try simp only [Act.put, List.getElem_toArray, List.getElem_cons_succ, List.getElem_cons_zero, List.setIfInBounds_toArray, List.set_cons_zero, List.set_cons_succ])
    refine wpAnyH_take (i := 9) (oi := _) (v := ?_) rfl (by kernel_rfl) (by kernel_rfl) (by kernel_rfl) (fun _ _ _ h => h) (Or.inl ⟨by rfl, ?_⟩) (by assumption) ?_
    rotate_left
    · (intro w hSw; (try dsimp only at hSw); (try go_simp); (try with_reducible rfl))
    (try simp only [Act.put, List.getElem_toArray, List.getElem_cons_succ, List.getElem_cons_zero, List.setIfInBounds_toArray, List.set_cons_zero, List.set_cons_succ])
    refine wpAnyH_take (i := 10) (oi := _) (v := ?_) rfl (by kernel_rfl) (by kernel_rfl) (by kernel_rfl) (fun _ _ _ h => h) (Or.inl ⟨by rfl, ?_⟩) (by assumption) ?_
    rotate_left
    · (intro w hSw; (try dsimp only at hSw); (try go_simp); (try with_reducible rfl))
    (try simp only [Act.put, List.getElem_toArray, List.getElem_cons_succ, List.getElem_cons_zero, List.setIfInBounds_toArray, List.set_cons_zero, List.set_cons_succ])
    refine wpAnyH_take (i := 11) (oi := _) (v := ?_) rfl (by kernel_rfl) (by kernel_rfl) (by kernel_rfl) (fun _ _ _ h => h) (Or.inl ⟨by rfl, ?_⟩) (by assumption) ?_
    rotate_left
    · (intro w hSw; (try dsimp only at hSw); (try go_simp); (try with_reducible rfl))
    (try simp only [Act.put, List.getElem_toArray, List.getElem_cons_succ, List.getElem_cons_zero, List.setIfInBounds_toArray, List.set_cons_zero, List.set_cons_succ])
    refine wpAnyH_take (i := 12) (oi := _) (v := ?_) rfl (by kernel_rfl) (by kernel_rfl) (by kernel_rfl) (fun _ _ _ h => h) (Or.inl ⟨by rfl, ?_⟩) (by assumption) ?_
    rotate_left
    · (intro w hSw; (try dsimp only at hSw); (try go_simp); (try with_reducible rfl))
    (try simp only [Act.put, List.getElem_toArray, List.getElem_cons_succ, List.getElem_cons_zero, List.setIfInBounds_toArray, List.set_cons_zero, List.set_cons_succ])
    refine wpAnyH_take (i := 13) (oi := _) (v := ?_) rfl (by kernel_rfl) (by kernel_rfl) (by kernel_rfl) (fun _ _ _ h => h) (Or.inl ⟨by rfl, ?_⟩) (by assumption) ?_
    rotate_left
    · (intro w hSw; (try dsimp only at hSw); (try go_simp); (try with_reducible rfl))
    (try simp only [Act.put, List.getElem_toArray, List.getElem_cons_succ, List.getElem_cons_zero, List.setIfInBounds_toArray, List.set_cons_zero, List.set_cons_succ])
    refine wpAnyH_take (i := 14) (oi := _) (v := ?_) rfl (by kernel_rfl) (by kernel_rfl) (by kernel_rfl) (fun _ _ _ h => h) (Or.inl ⟨by rfl, ?_⟩) (by assumption) ?_
    rotate_left
    · (intro w hSw; (try dsimp only at hSw); (try go_simp); (try with_reducible rfl))
    (try simp only [Act.put, List.getElem_toArray, List.getElem_cons_succ, List.getElem_cons_zero, List.setIfInBounds_toArray, List.set_cons_zero, List.set_cons_succ])
    refine wpAnyH_take (i := 15) (oi := _) (v := ?_) rfl (by kernel_rfl) (by kernel_rfl) (by kernel_rfl) (fun _ _ _ h => h) (Or.inl ⟨by rfl, ?_⟩) (by assumption) ?_
    rotate_left
    · (intro w hSw; (try dsimp only at hSw); (try go_simp); (try with_reducible rfl))
    (try simp only [Act.put, List.getElem_toArray, List.getElem_cons_succ, List.getElem_cons_zero, List.setIfInBounds_toArray, List.set_cons_zero, List.set_cons_succ])
    refine wpAnyH_take (i := 16) (oi := _) (v := ?_) rfl (by kernel_rfl) (by kernel_rfl) (by kernel_rfl) (fun _ _ _ h => h) (Or.inl ⟨by rfl, ?_⟩) (by assumption) ?_
    rotate_left
    · (intro w hSw; (try dsimp only at hSw); (try go_simp); (try with_reducible rfl))
    (try simp only [Act.put, List.getElem_toArray, List.getElem_cons_succ, List.getElem_cons_zero, List.setIfInBounds_toArray, List.set_cons_zero, List.set_cons_succ])
    refine wpAnyH_ready (rs := [17]) (by kernel_rfl) (by simp) ?_
    refine AllReadyH.cons (o := _) rfl (fun K hK => ?_) ?_
    · go_simp
      (with_reducible refine (sameT (Vx.out.ext hE) (Va.out.ext hE) rfl).mono ?_); rintro e y1 ⟨rfl, hy⟩; have hE := hE.trans hy
      refine hK.out _ _ ?_ (fun hHeld2 => ?_)
      · (first | exact ⟨cell_ext hy hHeld.1, cell_ext hy hHeld.2.1, cell_ext hy hHeld.2.2.1, cell_ext hy hHeld.2.2.2.1, cell_ext hy hHeld.2.2.2.2.1, cell_ext hy hHeld.2.2.2.2.2⟩ | exact ⟨ca0, ca1, cb0, cb1, cx0, cx1⟩ | exact hHeld)
      clear hK K hHeld
      have hHeld := hHeld2
      clear hHeld2
      (try simp only [Act.put, List.getElem_toArray, List.getElem_cons_succ, List.getElem_cons_zero, List.setIfInBounds_toArray, List.set_cons_zero, List.set_cons_succ])
      refine wpAnyH_take (i := 18) (oi := _) (v := ?_) rfl (by kernel_rfl) (by kernel_rfl) (by kernel_rfl) (fun _ _ _ h => h) (Or.inl ⟨by rfl, ?_⟩) (by assumption) ?_
      rotate_left
      · (intro w hSw; (try dsimp only at hSw); (try go_simp); (try with_reducible rfl))
      (try simp only [Act.put, List.getElem_toArray, List.getElem_cons_succ, List.getElem_cons_zero, List.setIfInBounds_toArray, List.set_cons_zero, List.set_cons_succ])
      refine wpAnyH_take (i := 19) (oi := _) (v := ?_) rfl (by kernel_rfl) (by kernel_rfl) (by kernel_rfl) (fun _ _ _ h => h) (Or.inl ⟨by rfl, ?_⟩) (by assumption) ?_
      rotate_left
      · (intro w hSw; (try dsimp only at hSw); (try go_simp); (try with_reducible rfl))
      (try simp only [Act.put, List.getElem_toArray, List.getElem_cons_succ, List.getElem_cons_zero, List.setIfInBounds_toArray, List.set_cons_zero, List.set_cons_succ])
      refine wpAnyH_take (i := 20) (oi := _) (v := ?_) rfl (by kernel_rfl) (by kernel_rfl) (by kernel_rfl) (fun _ _ _ h => h) (Or.inl ⟨by rfl, ?_⟩) (by assumption) ?_
      rotate_left
      · (intro w hSw; (try dsimp only at hSw); (try go_simp); (try with_reducible rfl))
      (try simp only [Act.put, List.getElem_toArray, List.getElem_cons_succ, List.getElem_cons_zero, List.setIfInBounds_toArray, List.set_cons_zero, List.set_cons_succ])
      refine wpAnyH_take (i := 21) (oi := _) (v := ?_) rfl (by kernel_rfl) (by kernel_rfl) (by kernel_rfl) (fun _ _ _ h => h) (Or.inl ⟨by rfl, ?_⟩) (by assumption) ?_
      rotate_left
      · (intro w hSw; (try dsimp only at hSw); (try go_simp); (try with_reducible rfl))
      (try simp only [Act.put, List.getElem_toArray, List.getElem_cons_succ, List.getElem_cons_zero, List.setIfInBounds_toArray, List.set_cons_zero, List.set_cons_succ])
      refine wpAnyH_take (i := 22) (oi := _) (v := ?_) rfl (by kernel_rfl) (by kernel_rfl) (by kernel_rfl) (fun _ _ _ h => h) (Or.inl ⟨by rfl, ?_⟩) (by assumption) ?_
      rotate_left
      · (intro w hSw; (try dsimp only at hSw); (try go_simp); (try with_reducible rfl))
      (try simp only [Act.put, List.getElem_toArray, List.getElem_cons_succ, List.getElem_cons_zero, List.setIfInBounds_toArray, List.set_cons_zero, List.set_cons_succ])
      refine wpAnyH_take (i := 23) (oi := _) (v := ?_) rfl (by kernel_rfl) (by kernel_rfl) (by kernel_rfl) (fun _ _ _ h => h) (Or.inl ⟨by rfl, ?_⟩) (by assumption) ?_
      rotate_left
      · (intro w hSw; (try dsimp only at hSw); (try go_simp); (try with_reducible rfl))
      (try simp only [Act.put, List.getElem_toArray, List.getElem_cons_succ, List.getElem_cons_zero, List.setIfInBounds_toArray, List.set_cons_zero, List.set_cons_succ])
      refine wpAnyH_take (i := 24) (oi := _) (v := ?_) rfl (by kernel_rfl) (by kernel_rfl) (by kernel_rfl) (fun _ _ _ h => h) (Or.inl ⟨by rfl, ?_⟩) (by assumption) ?_
      rotate_left
      · (intro w hSw; (try dsimp only at hSw); (try go_simp); (try with_reducible rfl))
      (try simp only [Act.put, List.getElem_toArray, List.getElem_cons_succ, List.getElem_cons_zero, List.setIfInBounds_toArray, List.set_cons_zero, List.set_cons_succ])
      refine wpAnyH_ready (rs := [25]) (by kernel_rfl) (by simp) ?_
      refine AllReadyH.cons (o := _) rfl (fun K hK => ?_) ?_
      · go_simp
        (with_reducible refine (ref_Same_gen (Va.out.ext hE) (Vb.out.ext hE)).mono ?_); rintro e y2 ⟨rfl, hy⟩; rw [HEQ.out]; have hE := hE.trans hy
        refine hK.out _ _ ?_ (fun hHeld2 => ?_)
        · (first | exact ⟨cell_ext hy hHeld.1, cell_ext hy hHeld.2.1, cell_ext hy hHeld.2.2.1, cell_ext hy hHeld.2.2.2.1, cell_ext hy hHeld.2.2.2.2.1, cell_ext hy hHeld.2.2.2.2.2⟩ | exact ⟨ca0, ca1, cb0, cb1, cx0, cx1⟩ | exact hHeld)
        clear hK K hHeld
        have hHeld := hHeld2
        clear hHeld2
        (try simp only [Act.put, List.getElem_toArray, List.getElem_cons_succ, List.getElem_cons_zero, List.setIfInBounds_toArray, List.set_cons_zero, List.set_cons_succ])
        refine wpAnyH_take (i := 26) (oi := _) (v := ?_) rfl (by kernel_rfl) (by kernel_rfl) (by kernel_rfl) (fun _ _ _ h => h) (Or.inl ⟨by rfl, ?_⟩) (by assumption) ?_
        rotate_left
        · (intro w hSw; (try dsimp only at hSw); (try go_simp); (try with_reducible rfl))
        (try simp only [Act.put, List.getElem_toArray, List.getElem_cons_succ, List.getElem_cons_zero, List.setIfInBounds_toArray, List.set_cons_zero, List.set_cons_succ])
        refine wpAnyH_take (i := 27) (oi := _) (v := ?_) rfl (by kernel_rfl) (by kernel_rfl) (by kernel_rfl) (fun _ _ _ h => h) (Or.inl ⟨by rfl, ?_⟩) (by assumption) ?_
        rotate_left
        · (intro w hSw; (try dsimp only at hSw); (try go_simp); (try with_reducible rfl))
        (try simp only [Act.put, List.getElem_toArray, List.getElem_cons_succ, List.getElem_cons_zero, List.setIfInBounds_toArray, List.set_cons_zero, List.set_cons_succ])
        refine wpAnyH_take (i := 28) (oi := _) (v := ?_) rfl (by kernel_rfl) (by kernel_rfl) (by kernel_rfl) (fun _ _ _ h => h) (Or.inl ⟨by rfl, ?_⟩) (by assumption) ?_
        rotate_left
        · (intro w hSw; (try dsimp only at hSw); (try go_simp); (try with_reducible rfl))
        (try simp only [Act.put, List.getElem_toArray, List.getElem_cons_succ, List.getElem_cons_zero, List.setIfInBounds_toArray, List.set_cons_zero, List.set_cons_succ])
        refine wpAnyH_take (i := 29) (oi := _) (v := ?_) rfl (by kernel_rfl) (by kernel_rfl) (by kernel_rfl) (fun _ _ _ h => h) (Or.inl ⟨by rfl, ?_⟩) (by assumption) ?_
        rotate_left
        · (intro w hSw; (try dsimp only at hSw); (try go_simp); (try with_reducible rfl))
        (try simp only [Act.put, List.getElem_toArray, List.getElem_cons_succ, List.getElem_cons_zero, List.setIfInBounds_toArray, List.set_cons_zero, List.set_cons_succ])
        refine wpAnyH_take (i := 30) (oi := _) (v := ?_) rfl (by kernel_rfl) (by kernel_rfl) (by kernel_rfl) (fun _ _ _ h => h) (Or.inl ⟨by rfl, ?_⟩) (by assumption) ?_
        rotate_left
        · (intro w hSw; (try dsimp only at hSw); (try go_simp); (try with_reducible rfl))
        (try simp only [Act.put, List.getElem_toArray, List.getElem_cons_succ, List.getElem_cons_zero, List.setIfInBounds_toArray, List.set_cons_zero, List.set_cons_succ])
        refine wpAnyH_take (i := 31) (oi := _) (v := ?_) rfl (by kernel_rfl) (by kernel_rfl) (by kernel_rfl) (fun _ _ _ h => h) (Or.inl ⟨by rfl, ?_⟩) (by assumption) ?_
        rotate_left
        · (intro w hSw; (try dsimp only at hSw); (try go_simp); (try with_reducible rfl))
        (try simp only [Act.put, List.getElem_toArray, List.getElem_cons_succ, List.getElem_cons_zero, List.setIfInBounds_toArray, List.set_cons_zero, List.set_cons_succ])
        refine wpAnyH_take (i := 32) (oi := _) (v := undef) rfl (by kernel_rfl) (by kernel_rfl) (by kernel_rfl) (fun _ _ _ h => h) (Or.inr ⟨by rfl, rfl⟩) (by assumption) ?_
        (try simp only [Act.put, List.getElem_toArray, List.getElem_cons_succ, List.getElem_cons_zero, List.setIfInBounds_toArray, List.set_cons_zero, List.set_cons_succ])
        refine wpAnyH_take (i := 33) (oi := _) (v := undef) rfl (by kernel_rfl) (by kernel_rfl) (by kernel_rfl) (fun _ _ _ h => h) (Or.inr ⟨by rfl, rfl⟩) (by assumption) ?_
        (try simp only [Act.put, List.getElem_toArray, List.getElem_cons_succ, List.getElem_cons_zero, List.setIfInBounds_toArray, List.set_cons_zero, List.set_cons_succ])
        refine wpAnyH_take (i := 34) (oi := _) (v := undef) rfl (by kernel_rfl) (by kernel_rfl) (by kernel_rfl) (fun _ _ _ h => h) (Or.inr ⟨by rfl, rfl⟩) (by assumption) ?_
        (try simp only [Act.put, List.getElem_toArray, List.getElem_cons_succ, List.getElem_cons_zero, List.setIfInBounds_toArray, List.set_cons_zero, List.set_cons_succ])
        refine wpAnyH_take (i := 35) (oi := _) (v := undef) rfl (by kernel_rfl) (by kernel_rfl) (by kernel_rfl) (fun _ _ _ h => h) (Or.inr ⟨by rfl, rfl⟩) (by assumption) ?_
        (try simp only [Act.put, List.getElem_toArray, List.getElem_cons_succ, List.getElem_cons_zero, List.setIfInBounds_toArray, List.set_cons_zero, List.set_cons_succ])
        refine wpAnyH_take (i := 36) (oi := _) (v := ?_) rfl (by kernel_rfl) (by kernel_rfl) (by kernel_rfl) (fun _ _ _ h => h) (Or.inl ⟨by rfl, ?_⟩) (by assumption) ?_
        rotate_left
        · (intro w hSw; (try dsimp only at hSw); (try go_simp); (try with_reducible rfl))
        (try simp only [Act.put, List.getElem_toArray, List.getElem_cons_succ, List.getElem_cons_zero, List.setIfInBounds_toArray, List.set_cons_zero, List.set_cons_succ])
        refine wpAnyH_take (i := 37) (oi := _) (v := ?_) rfl (by kernel_rfl) (by kernel_rfl) (by kernel_rfl) (fun _ _ _ h => h) (Or.inl ⟨by rfl, ?_⟩) (by assumption) ?_
        rotate_left
        · (intro w hSw; (try dsimp only at hSw); (try go_simp); (try with_reducible rfl))
        (try simp only [Act.put, List.getElem_toArray, List.getElem_cons_succ, List.getElem_cons_zero, List.setIfInBounds_toArray, List.set_cons_zero, List.set_cons_succ])
        refine wpAnyH_take (i := 38) (oi := _) (v := ?_) rfl (by kernel_rfl) (by kernel_rfl) (by kernel_rfl) (fun _ _ _ h => h) (Or.inl ⟨by rfl, ?_⟩) (by assumption) ?_
        rotate_left
        · (intro w hSw; (try dsimp only at hSw); (try go_simp); (try with_reducible rfl))
        (try simp only [Act.put, List.getElem_toArray, List.getElem_cons_succ, List.getElem_cons_zero, List.setIfInBounds_toArray, List.set_cons_zero, List.set_cons_succ])
        refine wpAnyH_done (by kernel_rfl) ?_ _
        (go_wp2_with fail; go_ret; exact ⟨rfl, hx.trans hE⟩)
      exact AllReadyH.nil
    exact AllReadyH.nil
  · have hff : fitV za = za := by
      have h := HFB.out
      unfold fitV; rw [if_pos h]
    have HFE := Lib.hid (show fv = za by rw [← HFV.out]; exact hff)
    have hfb : -9223372036854775808 ≤ fv ∧ fv ≤ 9223372036854775807 := by
      have h := HFB.out
      simp only [fitI, Bool.and_eq_true, decide_eq_true_eq] at h
      rw [HFE.out]; exact h
    have HMK2 := Lib.hid (fun W => nat_Make fv W hfb)
    clear hfb hff
    refine wp_region_held_drew (S := (fun w' => w'.cell? ⟨w.heap.size, 0, none⟩ = some (.bool na) ∧ w'.cell? ⟨w.heap.size, 1, none⟩ = some (.slice aa qa ca) ∧ w'.cell? ⟨w.heap.size + 1, 0, none⟩ = some (.bool nb) ∧ w'.cell? ⟨w.heap.size + 1, 1, none⟩ = some (.slice ab qb cb) ∧ w'.cell? ⟨px, 0, none⟩ = some (.bool nx) ∧ w'.cell? ⟨px, 1, none⟩ = some (.slice ax qx cx))) (by kernel_rfl) ?_ (fun hHeld => ?_)
    · (first | exact ⟨cell_ext hy hHeld.1, cell_ext hy hHeld.2.1, cell_ext hy hHeld.2.2.1, cell_ext hy hHeld.2.2.2.1, cell_ext hy hHeld.2.2.2.2.1, cell_ext hy hHeld.2.2.2.2.2⟩ | exact ⟨ca0, ca1, cb0, cb1, cx0, cx1⟩ | exact hHeld)
    refine wpAnyH_take (i := 0) (oi := _) (v := ?_) rfl (by kernel_rfl) (by kernel_rfl) (by kernel_rfl) (fun _ _ _ h => h) (Or.inl ⟨by rfl, ?_⟩) (by assumption) ?_
    rotate_left
    · (intro w hSw; (try dsimp only at hSw); (try go_simp); (try with_reducible rfl))
    (try simp only [Act.put, List.getElem_toArray, List.getElem_cons_succ, List.getElem_cons_zero, List.setIfInBounds_toArray, List.set_cons_zero, List.set_cons_succ])
    refine wpAnyH_take (i := 1) (oi := _) (v := ?_) rfl (by kernel_rfl) (by kernel_rfl) (by kernel_rfl) (fun _ _ _ h => h) (Or.inl ⟨by rfl, ?_⟩) (by assumption) ?_
    rotate_left
    · (intro w hSw; (try dsimp only at hSw); (try go_simp); (try with_reducible rfl))
    (try simp only [Act.put, List.getElem_toArray, List.getElem_cons_succ, List.getElem_cons_zero, List.setIfInBounds_toArray, List.set_cons_zero, List.set_cons_succ])
    refine wpAnyH_take (i := 2) (oi := _) (v := ?_) rfl (by kernel_rfl) (by kernel_rfl) (by kernel_rfl) (fun _ _ _ h => h) (Or.inl ⟨by rfl, ?_⟩) (by assumption) ?_
    rotate_left
    · (intro w hSw; (try dsimp only at hSw); (try go_simp); (try with_reducible rfl))
    (try simp only [Act.put, List.getElem_toArray, List.getElem_cons_succ, List.getElem_cons_zero, List.setIfInBounds_toArray, List.set_cons_zero, List.set_cons_succ])
    refine wpAnyH_take (i := 3) (oi := _) (v := ?_) rfl (by kernel_rfl) (by kernel_rfl) (by kernel_rfl) (fun _ _ _ h => h) (Or.inl ⟨by rfl, ?_⟩) (by assumption) ?_
    rotate_left
    · (intro w hSw; (try dsimp only at hSw); (try go_simp); (try with_reducible rfl))
    (try simp only [Act.put, List.getElem_toArray, List.getElem_cons_succ, List.getElem_cons_zero, List.setIfInBounds_toArray, List.set_cons_zero, List.set_cons_succ])
    refine wpAnyH_take (i := 4) (oi := _) (v := ?_) rfl (by kernel_rfl) (by kernel_rfl) (by kernel_rfl) (fun _ _ _ h => h) (Or.inl ⟨by rfl, ?_⟩) (by assumption) ?_
    rotate_left
    · (intro w hSw; (try dsimp only at hSw); (try go_simp); (try with_reducible rfl))
    (try simp only [Act.put, List.getElem_toArray, List.getElem_cons_succ, List.getElem_cons_zero, List.setIfInBounds_toArray, List.set_cons_zero, List.set_cons_succ])
    refine wpAnyH_take (i := 5) (oi := _) (v := ?_) rfl (by kernel_rfl) (by kernel_rfl) (by kernel_rfl) (fun _ _ _ h => h) (Or.inl ⟨by rfl, ?_⟩) (by assumption) ?_
    rotate_left
    · (intro w hSw; (try dsimp only at hSw); (try go_simp); (try with_reducible rfl))
    (try simp only [Act.put, List.getElem_toArray, List.getElem_cons_succ, List.getElem_cons_zero, List.setIfInBounds_toArray, List.set_cons_zero, List.set_cons_succ])
    refine wpAnyH_take (i := 6) (oi := _) (v := ?_) rfl (by kernel_rfl) (by kernel_rfl) (by kernel_rfl) (fun _ _ _ h => h) (Or.inl ⟨by rfl, ?_⟩) (by assumption) ?_
    rotate_left
    · (intro w hSw; (try dsimp only at hSw); (try go_simp); (try with_reducible rfl))
    (try simp only [Act.put, List.getElem_toArray, List.getElem_cons_succ, List.getElem_cons_zero, List.setIfInBounds_toArray, List.set_cons_zero, List.set_cons_succ])
    refine wpAnyH_take (i := 7) (oi := _) (v := ?_) rfl (by kernel_rfl) (by kernel_rfl) (by kernel_rfl) (fun _ _ _ h => h) (Or.inl ⟨by rfl, ?_⟩) (by assumption) ?_
    rotate_left
    · (intro w hSw; (try dsimp only at hSw); (try go_simp); (try with_reducible rfl))
    (try simp only [Act.put, List.getElem_toArray, List.getElem_cons_succ, List.getElem_cons_zero, List.setIfInBounds_toArray, List.set_cons_zero, List.set_cons_succ])
    refine wpAnyH_take (i := 8) (oi := _) (v := ?_) rfl (by kernel_rfl) (by kernel_rfl) (by kernel_rfl) (fun _ _ _ h => h) (Or.inl ⟨by rfl, ?_⟩) (by assumption) ?_
    rotate_left
    · (intro w hSw; (try dsimp only at hSw); (try go_simp); (try with_reducible rfl))
    (try simp only [Act.put, List.getElem_toArray, List.getElem_cons_succ, List.getElem_cons_zero, List.setIfInBounds_toArray, List.set_cons_zero, List.set_cons_succ])
    refine wpAnyH_take (i := 9) (oi := _) (v := ?_) rfl (by kernel_rfl) (by kernel_rfl) (by kernel_rfl) (fun _ _ _ h => h) (Or.inl ⟨by rfl, ?_⟩) (by assumption) ?_
    rotate_left
    · (intro w hSw; (try dsimp only at hSw); (try go_simp); (try with_reducible rfl))
    (try simp only [Act.put, List.getElem_toArray, List.getElem_cons_succ, List.getElem_cons_zero, List.setIfInBounds_toArray, List.set_cons_zero, List.set_cons_succ])
    refine wpAnyH_take (i := 10) (oi := _) (v := ?_) rfl (by kernel_rfl) (by kernel_rfl) (by kernel_rfl) (fun _ _ _ h => h) (Or.inl ⟨by rfl, ?_⟩) (by assumption) ?_
    rotate_left
    · (intro w hSw; (try dsimp only at hSw); (try go_simp); (try with_reducible rfl))
    (try simp only [Act.put, List.getElem_toArray, List.getElem_cons_succ, List.getElem_cons_zero, List.setIfInBounds_toArray, List.set_cons_zero, List.set_cons_succ])
    refine wpAnyH_take (i := 11) (oi := _) (v := ?_) rfl (by kernel_rfl) (by kernel_rfl) (by kernel_rfl) (fun _ _ _ h => h) (Or.inl ⟨by rfl, ?_⟩) (by assumption) ?_
    rotate_left
    · (intro w hSw; (try dsimp only at hSw); (try go_simp); (try with_reducible rfl))
    (try simp only [Act.put, List.getElem_toArray, List.getElem_cons_succ, List.getElem_cons_zero, List.setIfInBounds_toArray, List.set_cons_zero, List.set_cons_succ])
    refine wpAnyH_take (i := 12) (oi := _) (v := ?_) rfl (by kernel_rfl) (by kernel_rfl) (by kernel_rfl) (fun _ _ _ h => h) (Or.inl ⟨by rfl, ?_⟩) (by assumption) ?_
    rotate_left
    · (intro w hSw; (try dsimp only at hSw); (try go_simp); (try with_reducible rfl))
    (try simp only [Act.put, List.getElem_toArray, List.getElem_cons_succ, List.getElem_cons_zero, List.setIfInBounds_toArray, List.set_cons_zero, List.set_cons_succ])
    refine wpAnyH_take (i := 13) (oi := _) (v := ?_) rfl (by kernel_rfl) (by kernel_rfl) (by kernel_rfl) (fun _ _ _ h => h) (Or.inl ⟨by rfl, ?_⟩) (by assumption) ?_
    rotate_left
    · (intro w hSw; (try dsimp only at hSw); (try go_simp); (try with_reducible rfl))
    (try simp only [Act.put, List.getElem_toArray, List.getElem_cons_succ, List.getElem_cons_zero, List.setIfInBounds_toArray, List.set_cons_zero, List.set_cons_succ])
    refine wpAnyH_take (i := 14) (oi := _) (v := ?_) rfl (by kernel_rfl) (by kernel_rfl) (by kernel_rfl) (fun _ _ _ h => h) (Or.inl ⟨by rfl, ?_⟩) (by assumption) ?_
    rotate_left
    · (intro w hSw; (try dsimp only at hSw); (try go_simp); (try with_reducible rfl))
    (try simp only [Act.put, List.getElem_toArray, List.getElem_cons_succ, List.getElem_cons_zero, List.setIfInBounds_toArray, List.set_cons_zero, List.set_cons_succ])
    refine wpAnyH_take (i := 15) (oi := _) (v := ?_) rfl (by kernel_rfl) (by kernel_rfl) (by kernel_rfl) (fun _ _ _ h => h) (Or.inl ⟨by rfl, ?_⟩) (by assumption) ?_
    rotate_left
    · (intro w hSw; (try dsimp only at hSw); (try go_simp); (try with_reducible rfl))
    (try simp only [Act.put, List.getElem_toArray, List.getElem_cons_succ, List.getElem_cons_zero, List.setIfInBounds_toArray, List.set_cons_zero, List.set_cons_succ])
    refine wpAnyH_take (i := 16) (oi := _) (v := ?_) rfl (by kernel_rfl) (by kernel_rfl) (by kernel_rfl) (fun _ _ _ h => h) (Or.inl ⟨by rfl, ?_⟩) (by assumption) ?_
    rotate_left
    · (intro w hSw; (try dsimp only at hSw); (try go_simp); (try with_reducible rfl))
    (try simp only [Act.put, List.getElem_toArray, List.getElem_cons_succ, List.getElem_cons_zero, List.setIfInBounds_toArray, List.set_cons_zero, List.set_cons_succ])
    refine wpAnyH_ready (rs := [17]) (by kernel_rfl) (by simp) ?_
    refine AllReadyH.cons (o := _) rfl (fun K hK => ?_) ?_
    · go_simp
      (with_reducible refine (sameT (Vx.out.ext hE) (Va.out.ext hE) rfl).mono ?_); rintro e y1 ⟨rfl, hy⟩; have hE := hE.trans hy
      refine hK.out _ _ ?_ (fun hHeld2 => ?_)
      · (first | exact ⟨cell_ext hy hHeld.1, cell_ext hy hHeld.2.1, cell_ext hy hHeld.2.2.1, cell_ext hy hHeld.2.2.2.1, cell_ext hy hHeld.2.2.2.2.1, cell_ext hy hHeld.2.2.2.2.2⟩ | exact ⟨ca0, ca1, cb0, cb1, cx0, cx1⟩ | exact hHeld)
      clear hK K hHeld
      have hHeld := hHeld2
      clear hHeld2
      (try simp only [Act.put, List.getElem_toArray, List.getElem_cons_succ, List.getElem_cons_zero, List.setIfInBounds_toArray, List.set_cons_zero, List.set_cons_succ])
      refine wpAnyH_take (i := 18) (oi := _) (v := ?_) rfl (by kernel_rfl) (by kernel_rfl) (by kernel_rfl) (fun _ _ _ h => h) (Or.inl ⟨by rfl, ?_⟩) (by assumption) ?_
      rotate_left
      · (intro w hSw; (try dsimp only at hSw); (try go_simp); (try with_reducible rfl))
      (try simp only [Act.put, List.getElem_toArray, List.getElem_cons_succ, List.getElem_cons_zero, List.setIfInBounds_toArray, List.set_cons_zero, List.set_cons_succ])
      refine wpAnyH_take (i := 19) (oi := _) (v := ?_) rfl (by kernel_rfl) (by kernel_rfl) (by kernel_rfl) (fun _ _ _ h => h) (Or.inl ⟨by rfl, ?_⟩) (by assumption) ?_
      rotate_left
      · (intro w hSw; (try dsimp only at hSw); (try go_simp); (try with_reducible rfl))
      (try simp only [Act.put, List.getElem_toArray, List.getElem_cons_succ, List.getElem_cons_zero, List.setIfInBounds_toArray, List.set_cons_zero, List.set_cons_succ])
      refine wpAnyH_take (i := 20) (oi := _) (v := ?_) rfl (by kernel_rfl) (by kernel_rfl) (by kernel_rfl) (fun _ _ _ h => h) (Or.inl ⟨by rfl, ?_⟩) (by assumption) ?_
      rotate_left
      · (intro w hSw; (try dsimp only at hSw); (try go_simp); (try with_reducible rfl))
      (try simp only [Act.put, List.getElem_toArray, List.getElem_cons_succ, List.getElem_cons_zero, List.setIfInBounds_toArray, List.set_cons_zero, List.set_cons_succ])
      refine wpAnyH_take (i := 21) (oi := _) (v := ?_) rfl (by kernel_rfl) (by kernel_rfl) (by kernel_rfl) (fun _ _ _ h => h) (Or.inl ⟨by rfl, ?_⟩) (by assumption) ?_
      rotate_left
      · (intro w hSw; (try dsimp only at hSw); (try go_simp); (try with_reducible rfl))
      (try simp only [Act.put, List.getElem_toArray, List.getElem_cons_succ, List.getElem_cons_zero, List.setIfInBounds_toArray, List.set_cons_zero, List.set_cons_succ])
      refine wpAnyH_take (i := 22) (oi := _) (v := ?_) rfl (by kernel_rfl) (by kernel_rfl) (by kernel_rfl) (fun _ _ _ h => h) (Or.inl ⟨by rfl, ?_⟩) (by assumption) ?_
      rotate_left
      · (intro w hSw; (try dsimp only at hSw); (try go_simp); (try with_reducible rfl))
      (try simp only [Act.put, List.getElem_toArray, List.getElem_cons_succ, List.getElem_cons_zero, List.setIfInBounds_toArray, List.set_cons_zero, List.set_cons_succ])
      refine wpAnyH_take (i := 23) (oi := _) (v := ?_) rfl (by kernel_rfl) (by kernel_rfl) (by kernel_rfl) (fun _ _ _ h => h) (Or.inl ⟨by rfl, ?_⟩) (by assumption) ?_
      rotate_left
      · (intro w hSw; (try dsimp only at hSw); (try go_simp); (try with_reducible rfl))
      (try simp only [Act.put, List.getElem_toArray, List.getElem_cons_succ, List.getElem_cons_zero, List.setIfInBounds_toArray, List.set_cons_zero, List.set_cons_succ])
      refine wpAnyH_take (i := 24) (oi := _) (v := ?_) rfl (by kernel_rfl) (by kernel_rfl) (by kernel_rfl) (fun _ _ _ h => h) (Or.inl ⟨by rfl, ?_⟩) (by assumption) ?_
      rotate_left
      · (intro w hSw; (try dsimp only at hSw); (try go_simp); (try with_reducible rfl))
      (try simp only [Act.put, List.getElem_toArray, List.getElem_cons_succ, List.getElem_cons_zero, List.setIfInBounds_toArray, List.set_cons_zero, List.set_cons_succ])
      refine wpAnyH_ready (rs := [25]) (by kernel_rfl) (by simp) ?_
      refine AllReadyH.cons (o := _) rfl (fun K hK => ?_) ?_
      · go_simp
        (with_reducible refine (ref_Same_gen (Va.out.ext hE) (Vb.out.ext hE)).mono ?_); rintro e y2 ⟨rfl, hy⟩; rw [HEQ.out]; have hE := hE.trans hy
        refine hK.out _ _ ?_ (fun hHeld2 => ?_)
        · (first | exact ⟨cell_ext hy hHeld.1, cell_ext hy hHeld.2.1, cell_ext hy hHeld.2.2.1, cell_ext hy hHeld.2.2.2.1, cell_ext hy hHeld.2.2.2.2.1, cell_ext hy hHeld.2.2.2.2.2⟩ | exact ⟨ca0, ca1, cb0, cb1, cx0, cx1⟩ | exact hHeld)
        clear hK K hHeld
        have hHeld := hHeld2
        clear hHeld2
        (try simp only [Act.put, List.getElem_toArray, List.getElem_cons_succ, List.getElem_cons_zero, List.setIfInBounds_toArray, List.set_cons_zero, List.set_cons_succ])
        refine wpAnyH_take (i := 26) (oi := _) (v := ?_) rfl (by kernel_rfl) (by kernel_rfl) (by kernel_rfl) (fun _ _ _ h => h) (Or.inl ⟨by rfl, ?_⟩) (by assumption) ?_
        rotate_left
        · (intro w hSw; (try dsimp only at hSw); (try go_simp); (try with_reducible rfl))
        (try simp only [Act.put, List.getElem_toArray, List.getElem_cons_succ, List.getElem_cons_zero, List.setIfInBounds_toArray, List.set_cons_zero, List.set_cons_succ])
        refine wpAnyH_take (i := 27) (oi := _) (v := ?_) rfl (by kernel_rfl) (by kernel_rfl) (by kernel_rfl) (fun _ _ _ h => h) (Or.inl ⟨by rfl, ?_⟩) (by assumption) ?_
        rotate_left
        · (intro w hSw; (try dsimp only at hSw); (try go_simp); (try with_reducible rfl))
        (try simp only [Act.put, List.getElem_toArray, List.getElem_cons_succ, List.getElem_cons_zero, List.setIfInBounds_toArray, List.set_cons_zero, List.set_cons_succ])
        refine wpAnyH_take (i := 28) (oi := _) (v := ?_) rfl (by kernel_rfl) (by kernel_rfl) (by kernel_rfl) (fun _ _ _ h => h) (Or.inl ⟨by rfl, ?_⟩) (by assumption) ?_
        rotate_left
        · (intro w hSw; (try dsimp only at hSw); (try go_simp); (try with_reducible rfl))
        (try simp only [Act.put, List.getElem_toArray, List.getElem_cons_succ, List.getElem_cons_zero, List.setIfInBounds_toArray, List.set_cons_zero, List.set_cons_succ])
        refine wpAnyH_take (i := 29) (oi := _) (v := ?_) rfl (by kernel_rfl) (by kernel_rfl) (by kernel_rfl) (fun _ _ _ h => h) (Or.inl ⟨by rfl, ?_⟩) (by assumption) ?_
        rotate_left
        · (intro w hSw; (try dsimp only at hSw); (try go_simp); (try with_reducible rfl))
        (try simp only [Act.put, List.getElem_toArray, List.getElem_cons_succ, List.getElem_cons_zero, List.setIfInBounds_toArray, List.set_cons_zero, List.set_cons_succ])
        refine wpAnyH_take (i := 30) (oi := _) (v := ?_) rfl (by kernel_rfl) (by kernel_rfl) (by kernel_rfl) (fun _ _ _ h => h) (Or.inl ⟨by rfl, ?_⟩) (by assumption) ?_
        rotate_left
        · (intro w hSw; (try dsimp only at hSw); (try go_simp); (try with_reducible rfl))
        (try simp only [Act.put, List.getElem_toArray, List.getElem_cons_succ, List.getElem_cons_zero, List.setIfInBounds_toArray, List.set_cons_zero, List.set_cons_succ])
        refine wpAnyH_take (i := 31) (oi := _) (v := ?_) rfl (by kernel_rfl) (by kernel_rfl) (by kernel_rfl) (fun _ _ _ h => h) (Or.inl ⟨by rfl, ?_⟩) (by assumption) ?_
        rotate_left
        · (intro w hSw; (try dsimp only at hSw); (try go_simp); (try with_reducible rfl))
        (try simp only [Act.put, List.getElem_toArray, List.getElem_cons_succ, List.getElem_cons_zero, List.setIfInBounds_toArray, List.set_cons_zero, List.set_cons_succ])
        refine wpAnyH_take (i := 32) (oi := _) (v := ?_) rfl (by kernel_rfl) (by kernel_rfl) (by kernel_rfl) (fun _ _ _ h => h) (Or.inl ⟨by rfl, ?_⟩) (by assumption) ?_
        rotate_left
        · (intro w hSw; (try dsimp only at hSw); (try go_simp); (try with_reducible rfl))
        (try simp only [Act.put, List.getElem_toArray, List.getElem_cons_succ, List.getElem_cons_zero, List.setIfInBounds_toArray, List.set_cons_zero, List.set_cons_succ])
        refine wpAnyH_take (i := 34) (oi := _) (v := ?_) rfl (by kernel_rfl) (by kernel_rfl) (by kernel_rfl) (fun _ _ _ h => h) (Or.inl ⟨by rfl, ?_⟩) (by assumption) ?_
        rotate_left
        · (intro w hSw; (try dsimp only at hSw); (try go_simp); (try with_reducible rfl))
        (try simp only [Act.put, List.getElem_toArray, List.getElem_cons_succ, List.getElem_cons_zero, List.setIfInBounds_toArray, List.set_cons_zero, List.set_cons_succ])
        refine wpAnyH_ready (rs := [33]) (by kernel_rfl) (by simp) ?_
        refine AllReadyH.cons (o := _) rfl (fun K hK => ?_) ?_
        · go_simp
          (with_reducible refine (HMK2.out _).mono ?_); rintro e y3 ⟨vk, rfl, hvk, hy⟩; have hE := hE.trans hy
          refine hK.out _ _ ?_ (fun hHeld2 => ?_)
          · (first | exact ⟨cell_ext hy hHeld.1, cell_ext hy hHeld.2.1, cell_ext hy hHeld.2.2.1, cell_ext hy hHeld.2.2.2.1, cell_ext hy hHeld.2.2.2.2.1, cell_ext hy hHeld.2.2.2.2.2⟩ | exact ⟨ca0, ca1, cb0, cb1, cx0, cx1⟩ | exact hHeld)
          clear hK K hHeld
          have hHeld := hHeld2
          clear hHeld2
          (try simp only [Act.put, List.getElem_toArray, List.getElem_cons_succ, List.getElem_cons_zero, List.setIfInBounds_toArray, List.set_cons_zero, List.set_cons_succ])
          refine wpAnyH_ready (rs := [35]) (by kernel_rfl) (by simp) ?_
          refine AllReadyH.cons (o := _) rfl (fun K hK => ?_) ?_
          · go_simp
            (with_reducible refine (sameT hvk.val (Va.out.ext hE) HFE.out).mono ?_); rintro e y4 ⟨rfl, hy⟩; have hE := hE.trans hy
            refine hK.out _ _ ?_ (fun hHeld2 => ?_)
            · (first | exact ⟨cell_ext hy hHeld.1, cell_ext hy hHeld.2.1, cell_ext hy hHeld.2.2.1, cell_ext hy hHeld.2.2.2.1, cell_ext hy hHeld.2.2.2.2.1, cell_ext hy hHeld.2.2.2.2.2⟩ | exact ⟨ca0, ca1, cb0, cb1, cx0, cx1⟩ | exact hHeld)
            clear hK K hHeld
            have hHeld := hHeld2
            clear hHeld2
            (try simp only [Act.put, List.getElem_toArray, List.getElem_cons_succ, List.getElem_cons_zero, List.setIfInBounds_toArray, List.set_cons_zero, List.set_cons_succ])
            refine wpAnyH_take (i := 36) (oi := _) (v := ?_) rfl (by kernel_rfl) (by kernel_rfl) (by kernel_rfl) (fun _ _ _ h => h) (Or.inl ⟨by rfl, ?_⟩) (by assumption) ?_
            rotate_left
            · (intro w hSw; (try dsimp only at hSw); (try go_simp); (try with_reducible rfl))
            (try simp only [Act.put, List.getElem_toArray, List.getElem_cons_succ, List.getElem_cons_zero, List.setIfInBounds_toArray, List.set_cons_zero, List.set_cons_succ])
            refine wpAnyH_take (i := 37) (oi := _) (v := ?_) rfl (by kernel_rfl) (by kernel_rfl) (by kernel_rfl) (fun _ _ _ h => h) (Or.inl ⟨by rfl, ?_⟩) (by assumption) ?_
            rotate_left
            · (intro w hSw; (try dsimp only at hSw); (try go_simp); (try with_reducible rfl))
            (try simp only [Act.put, List.getElem_toArray, List.getElem_cons_succ, List.getElem_cons_zero, List.setIfInBounds_toArray, List.set_cons_zero, List.set_cons_succ])
            refine wpAnyH_take (i := 38) (oi := _) (v := ?_) rfl (by kernel_rfl) (by kernel_rfl) (by kernel_rfl) (fun _ _ _ h => h) (Or.inl ⟨by rfl, ?_⟩) (by assumption) ?_
            rotate_left
            · (intro w hSw; (try dsimp only at hSw); (try go_simp); (try with_reducible rfl))
            (try simp only [Act.put, List.getElem_toArray, List.getElem_cons_succ, List.getElem_cons_zero, List.setIfInBounds_toArray, List.set_cons_zero, List.set_cons_succ])
            refine wpAnyH_done (by kernel_rfl) ?_ _
            (go_wp2_with fail; go_ret; exact ⟨rfl, hx.trans hE⟩)
          exact AllReadyH.nil
        exact AllReadyH.nil
      exact AllReadyH.nil
    exact AllReadyH.nil
set_option maxHeartbeats 2000000 in
theorem law_BackC0 (na nb : Bool) (aa ab : Option Addr) (qa qb ca cb : Nat) (l m : List Int) (n : Int) (s : ByteArray) (w : World) (ha : Ints w aa ca l) (hb : Ints w ab cb m) (la : l.length = qa) (lb : m.length = qb) (hn : -9223372036854775808 ≤ n ∧ n ≤ 9223372036854775807) (hs : s.size ≤ 200 ∧ ∃ z, readL s.data.toList = some z) (hv : okA ⟨na, aa, ca, l⟩ = false ∨ okA ⟨nb, ab, cb, m⟩ = false) :
    Calls Tryd.prog 5 #[.agg #[.bool na, .slice aa qa ca], .agg #[.bool nb, .slice ab qb cb], .int .i64 n, .string s] w fun e w' => e = .returned (.bool true) ∧ Ext w w' := by
  have HI := Lib.hid ha
  have HJ := Lib.hid hb
  have HLA := Lib.hid la
  have HLB := Lib.hid lb
  have HNN := Lib.hid hn
  have HV := Lib.hid hv
  have t1 : decide (s.size ≤ 200) = true := by simpa using hs.1
  have t2 : decide ((s.size : Int) ≤ 200) = true := by simp only [decide_eq_true_eq]; omega
  obtain ⟨hs1, z, hz⟩ := hs
  have hL : s.data.toList.length = s.size := (Lib.size_eq s).symm
  have HR := Lib.hid (fun W => (read_val s W (by omega)).mono fun _ _ hh => hh.2 z hz)
  have HZL := Lib.hid (read_len hz (by omega))
  have HTX := Lib.hid (text_read hz)
  clear hz
  clear la lb ha hb hv hs1
  have hx : Ext w (((w).alloc (.cells #[.bool na, .slice aa qa ca] 24)).alloc (.cells #[.bool nb, .slice ab qb cb] 24)) := (by repeat (first | with_reducible exact Ext.refl _ | with_reducible assumption | with_reducible refine Ext.drewN ?_ _ | with_reducible refine Ext.drew ?_ | with_reducible refine Ext.alloc' ?_ _ | with_reducible refine Ext.set ?_ (by dsimp only; omega) _))
  have Ka : Blk (((w).alloc (.cells #[.bool na, .slice aa qa ca] 24)).alloc (.cells #[.bool nb, .slice ab qb cb] 24)) (w.heap.size) #[.bool na, .slice aa qa ca] 24 := by have h := (Blk.new0 (w) #[.bool na, .slice aa qa ca] 24).alloc (.cells #[.bool nb, .slice ab qb cb] 24); simpa [Nat.add_assoc] using h
  have Ka := Lib.hid Ka
  have Kb : Blk (((w).alloc (.cells #[.bool na, .slice aa qa ca] 24)).alloc (.cells #[.bool nb, .slice ab qb cb] 24)) (w.heap.size + 1) #[.bool nb, .slice ab qb cb] 24 := by have h := Blk.new0 ((w).alloc (.cells #[.bool na, .slice aa qa ca] 24)) #[.bool nb, .slice ab qb cb] 24; simpa [Nat.add_assoc] using h
  have Kb := Lib.hid Kb
  go_enter Tryd.func5, Tryd.ntmps5
  go_upto_region 1 with fail
  try simp only [Nat.add_assoc, Nat.reduceAdd, Nat.add_zero]
  generalize ((w).alloc (.cells #[.bool na, .slice aa qa ca] 24)).alloc (.cells #[.bool nb, .slice ab qb cb] 24) = x37 at *
  go_wp2_with fail
  with_reducible refine (law09Sane _).mono ?_
  rintro e x38 ⟨rfl, hy⟩
  have hx := hx.trans hy
  have Ka := Lib.hid (Ka.out.ext hy)
  have Kb := Lib.hid (Kb.out.ext hy)
  clear hy
  have hI1 := fun W => nat_Make n W hn
  have HMK := Lib.hid hI1
  clear hI1
  go_wp2_with fail
  with_reducible refine (HMK.out _).mono ?_
  rintro e x39 ⟨v, rfl, hv, hy⟩
  have hv := hv.val
  have hx := hx.trans hy
  have Ka := Lib.hid (Ka.out.ext hy)
  have Kb := Lib.hid (Kb.out.ext hy)
  clear hy
  obtain ⟨ny, ay, qy, cy, rfl⟩ := hv.form
  have Vy := Lib.hid hv
  clear hv
  go_wp2_with fail
  with_reducible refine (int_of_make Vy.out HNN.out).mono ?_
  rintro e x40 ⟨rfl, hy⟩
  have hx := hx.trans hy
  have Ka := Lib.hid (Ka.out.ext hy)
  have Kb := Lib.hid (Kb.out.ext hy)
  have Vy := Lib.hid (Vy.out.ext hy)
  clear hy
  clear Vy
  go_upto_region 6 with fail
  go_wp2_with fail
  with_reducible refine (HR.out _).mono ?_
  rintro e x41 ⟨v, rfl, hv, hy⟩
  have hv := hv.val
  have hx := hx.trans hy
  have Ka := Lib.hid (Ka.out.ext hy)
  have Kb := Lib.hid (Kb.out.ext hy)
  clear hy
  obtain ⟨nr, ar, qr, cr, rfl⟩ := hv.form
  have Vr := Lib.hid hv
  clear hv
  go_upto_region 8 with fail
  have hl := Ext.alloc x41 (.cells #[.bool nr, .slice ar qr cr] 24)
  have hx := hx.trans hl
  have Ka := Lib.hid (Ka.out.ext hl)
  have Kb := Lib.hid (Kb.out.ext hl)
  have Vr := Lib.hid (Vr.out.ext hl)
  have Kr := Lib.hid (Blk.new0 x41 #[.bool nr, .slice ar qr cr] 24)
  clear hl
  generalize x41.alloc (.cells #[.bool nr, .slice ar qr cr] 24) = x42 at *
  generalize x41.heap.size = pr at *
  have cr0 := Kr.out.cell (i := 0) (v := .bool nr) rfl
  have cr1 := Kr.out.cell (i := 1) (v := .slice ar qr cr) rfl
  go_wp2_with fail
  with_reducible refine (text_val Vr.out HZL.out).mono ?_
  unfold TextP
  rintro e x43 ⟨rfl, hy⟩
  rw [HTX.out, ba_mk]
  have hx := hx.trans hy
  have Ka := Lib.hid (Ka.out.ext hy)
  have Kb := Lib.hid (Kb.out.ext hy)
  have Vr := Lib.hid (Vr.out.ext hy)
  have Kr := Lib.hid (Kr.out.ext hy)
  clear hy
  clear cr0 cr1
  have cr0 := Kr.out.cell (i := 0) (v := .bool nr) rfl
  have cr1 := Kr.out.cell (i := 1) (v := .slice ar qr cr) rfl
  go_wp2_with fail
  with_reducible refine (check_val Vr.out HZL.out).mono ?_
  rintro e x44 ⟨rfl, hy⟩
  have hx := hx.trans hy
  have Ka := Lib.hid (Ka.out.ext hy)
  have Kb := Lib.hid (Kb.out.ext hy)
  have Vr := Lib.hid (Vr.out.ext hy)
  have Kr := Lib.hid (Kr.out.ext hy)
  clear hy
  clear cr0 cr1
  clear Kr Vr
  go_upto_region 14 with fail
  have ca0 := Ka.out.cell (i := 0) (v := .bool na) rfl
  have ca1 := Ka.out.cell (i := 1) (v := .slice aa qa ca) rfl
  have cb0 := Kb.out.cell (i := 0) (v := .bool nb) rfl
  have cb1 := Kb.out.cell (i := 1) (v := .slice ab qb cb) rfl
  have hl := Ext.alloc x44 (.cells #[.bool na, .slice aa qa ca, .bool nb, .slice ab qb cb] 24)
  have hrow : BigRow (x44.alloc (.cells #[.bool na, .slice aa qa ca, .bool nb, .slice ab qb cb] 24)) x44.heap.size [⟨na, aa, ca, l⟩, ⟨nb, ab, cb, m⟩] := by
    have hB := Blk.new0 x44 #[.bool na, .slice aa qa ca, .bool nb, .slice ab qb cb] 24
    rw [← HLA.out, ← HLB.out] at hB ⊢
    refine bigRow2 hB (HI.out.ext ?_) (HJ.out.ext ?_)
    · have h := hx.trans hl
      rw [← HLA.out, ← HLB.out] at h; exact h
    · have h := hx.trans hl
      rw [← HLA.out, ← HLB.out] at h; exact h
  have HROW := Lib.hid hrow
  clear hrow
  have HVAL := Lib.hid (law_valid_no _ _ _ HROW.out (by simp) (by
    simp only [List.any_cons, List.any_nil, Bool.or_false]
    rcases HV.out with h | h
    · rw [h]; rfl
    · rw [h]; simp))
  simp only [List.length_cons, List.length_nil, Nat.zero_add, Nat.reduceAdd] at HVAL
  go_wp2_with fail
  with_reducible refine (HVAL.out).mono ?_
  rintro e x45 ⟨rfl, hy⟩
  have hx := hx.trans (hl.trans hy)
  have Ka := Lib.hid (Ka.out.ext (hl.trans hy))
  have Kb := Lib.hid (Kb.out.ext (hl.trans hy))
  clear hl hy HROW HVAL
  clear ca0 ca1 cb0 cb1
  go_wp2_with fail
  go_ret
  exact ⟨rfl, hx⟩
set_option maxHeartbeats 2000000 in
theorem law_BackC1 (na nb : Bool) (aa ab : Option Addr) (qa qb ca cb : Nat) (l m : List Int) (n : Int) (s : ByteArray) (w : World) (ha : Ints w aa ca l) (hb : Ints w ab cb m) (la : l.length = qa) (lb : m.length = qb) (hn : -9223372036854775808 ≤ n ∧ n ≤ 9223372036854775807) (hs : s.size ≤ 200 ∧ ∃ z, readL s.data.toList = some z) (hv : okA ⟨na, aa, ca, l⟩ = true ∧ okA ⟨nb, ab, cb, m⟩ = true) :
    Calls Tryd.prog 5 #[.agg #[.bool na, .slice aa qa ca], .agg #[.bool nb, .slice ab qb cb], .int .i64 n, .string s] w fun e w' => e = .returned (.bool true) ∧ Ext w w' := by
  have HI := Lib.hid ha
  have HJ := Lib.hid hb
  have HLA := Lib.hid la
  have HLB := Lib.hid lb
  have HNN := Lib.hid hn
  have HV := Lib.hid hv
  have t1 : decide (s.size ≤ 200) = true := by simpa using hs.1
  have t2 : decide ((s.size : Int) ≤ 200) = true := by simp only [decide_eq_true_eq]; omega
  obtain ⟨hs1, z, hz⟩ := hs
  have hL : s.data.toList.length = s.size := (Lib.size_eq s).symm
  have HR := Lib.hid (fun W => (read_val s W (by omega)).mono fun _ _ hh => hh.2 z hz)
  have HZL := Lib.hid (read_len hz (by omega))
  have HTX := Lib.hid (text_read hz)
  clear hz
  clear la lb ha hb hv hs1
  have hx : Ext w (((w).alloc (.cells #[.bool na, .slice aa qa ca] 24)).alloc (.cells #[.bool nb, .slice ab qb cb] 24)) := (by repeat (first | with_reducible exact Ext.refl _ | with_reducible assumption | with_reducible refine Ext.drewN ?_ _ | with_reducible refine Ext.drew ?_ | with_reducible refine Ext.alloc' ?_ _ | with_reducible refine Ext.set ?_ (by dsimp only; omega) _))
  have Ka : Blk (((w).alloc (.cells #[.bool na, .slice aa qa ca] 24)).alloc (.cells #[.bool nb, .slice ab qb cb] 24)) (w.heap.size) #[.bool na, .slice aa qa ca] 24 := by have h := (Blk.new0 (w) #[.bool na, .slice aa qa ca] 24).alloc (.cells #[.bool nb, .slice ab qb cb] 24); simpa [Nat.add_assoc] using h
  have Ka := Lib.hid Ka
  have Kb : Blk (((w).alloc (.cells #[.bool na, .slice aa qa ca] 24)).alloc (.cells #[.bool nb, .slice ab qb cb] 24)) (w.heap.size + 1) #[.bool nb, .slice ab qb cb] 24 := by have h := Blk.new0 ((w).alloc (.cells #[.bool na, .slice aa qa ca] 24)) #[.bool nb, .slice ab qb cb] 24; simpa [Nat.add_assoc] using h
  have Kb := Lib.hid Kb
  go_enter Tryd.func5, Tryd.ntmps5
  go_upto_region 1 with fail
  try simp only [Nat.add_assoc, Nat.reduceAdd, Nat.add_zero]
  generalize ((w).alloc (.cells #[.bool na, .slice aa qa ca] 24)).alloc (.cells #[.bool nb, .slice ab qb cb] 24) = x46 at *
  go_wp2_with fail
  with_reducible refine (law09Sane _).mono ?_
  rintro e x47 ⟨rfl, hy⟩
  have hx := hx.trans hy
  have Ka := Lib.hid (Ka.out.ext hy)
  have Kb := Lib.hid (Kb.out.ext hy)
  clear hy
  have hI1 := fun W => nat_Make n W hn
  have HMK := Lib.hid hI1
  clear hI1
  go_wp2_with fail
  with_reducible refine (HMK.out _).mono ?_
  rintro e x48 ⟨v, rfl, hv, hy⟩
  have hv := hv.val
  have hx := hx.trans hy
  have Ka := Lib.hid (Ka.out.ext hy)
  have Kb := Lib.hid (Kb.out.ext hy)
  clear hy
  obtain ⟨ny, ay, qy, cy, rfl⟩ := hv.form
  have Vy := Lib.hid hv
  clear hv
  go_wp2_with fail
  with_reducible refine (int_of_make Vy.out HNN.out).mono ?_
  rintro e x49 ⟨rfl, hy⟩
  have hx := hx.trans hy
  have Ka := Lib.hid (Ka.out.ext hy)
  have Kb := Lib.hid (Kb.out.ext hy)
  have Vy := Lib.hid (Vy.out.ext hy)
  clear hy
  clear Vy
  go_upto_region 6 with fail
  go_wp2_with fail
  with_reducible refine (HR.out _).mono ?_
  rintro e x50 ⟨v, rfl, hv, hy⟩
  have hv := hv.val
  have hx := hx.trans hy
  have Ka := Lib.hid (Ka.out.ext hy)
  have Kb := Lib.hid (Kb.out.ext hy)
  clear hy
  obtain ⟨nr, ar, qr, cr, rfl⟩ := hv.form
  have Vr := Lib.hid hv
  clear hv
  go_upto_region 8 with fail
  have hl := Ext.alloc x50 (.cells #[.bool nr, .slice ar qr cr] 24)
  have hx := hx.trans hl
  have Ka := Lib.hid (Ka.out.ext hl)
  have Kb := Lib.hid (Kb.out.ext hl)
  have Vr := Lib.hid (Vr.out.ext hl)
  have Kr := Lib.hid (Blk.new0 x50 #[.bool nr, .slice ar qr cr] 24)
  clear hl
  generalize x50.alloc (.cells #[.bool nr, .slice ar qr cr] 24) = x51 at *
  generalize x50.heap.size = pr at *
  have cr0 := Kr.out.cell (i := 0) (v := .bool nr) rfl
  have cr1 := Kr.out.cell (i := 1) (v := .slice ar qr cr) rfl
  go_wp2_with fail
  with_reducible refine (text_val Vr.out HZL.out).mono ?_
  unfold TextP
  rintro e x52 ⟨rfl, hy⟩
  rw [HTX.out, ba_mk]
  have hx := hx.trans hy
  have Ka := Lib.hid (Ka.out.ext hy)
  have Kb := Lib.hid (Kb.out.ext hy)
  have Vr := Lib.hid (Vr.out.ext hy)
  have Kr := Lib.hid (Kr.out.ext hy)
  clear hy
  clear cr0 cr1
  have cr0 := Kr.out.cell (i := 0) (v := .bool nr) rfl
  have cr1 := Kr.out.cell (i := 1) (v := .slice ar qr cr) rfl
  go_wp2_with fail
  with_reducible refine (check_val Vr.out HZL.out).mono ?_
  rintro e x53 ⟨rfl, hy⟩
  have hx := hx.trans hy
  have Ka := Lib.hid (Ka.out.ext hy)
  have Kb := Lib.hid (Kb.out.ext hy)
  have Vr := Lib.hid (Vr.out.ext hy)
  have Kr := Lib.hid (Kr.out.ext hy)
  clear hy
  clear cr0 cr1
  clear Kr Vr
  go_upto_region 14 with fail
  have ca0 := Ka.out.cell (i := 0) (v := .bool na) rfl
  have ca1 := Ka.out.cell (i := 1) (v := .slice aa qa ca) rfl
  have cb0 := Kb.out.cell (i := 0) (v := .bool nb) rfl
  have cb1 := Kb.out.cell (i := 1) (v := .slice ab qb cb) rfl
  have hl := Ext.alloc x53 (.cells #[.bool na, .slice aa qa ca, .bool nb, .slice ab qb cb] 24)
  have hrow : BigRow (x53.alloc (.cells #[.bool na, .slice aa qa ca, .bool nb, .slice ab qb cb] 24)) x53.heap.size [⟨na, aa, ca, l⟩, ⟨nb, ab, cb, m⟩] := by
    have hB := Blk.new0 x53 #[.bool na, .slice aa qa ca, .bool nb, .slice ab qb cb] 24
    rw [← HLA.out, ← HLB.out] at hB ⊢
    refine bigRow2 hB (HI.out.ext ?_) (HJ.out.ext ?_)
    · have h := hx.trans hl
      rw [← HLA.out, ← HLB.out] at h; exact h
    · have h := hx.trans hl
      rw [← HLA.out, ← HLB.out] at h; exact h
  have HROW := Lib.hid hrow
  clear hrow
  have HVAL := Lib.hid (law_valid_yes _ _ _ HROW.out (by simp) (by
    intro x hx
    simp only [List.mem_cons, List.not_mem_nil, or_false] at hx
    rcases hx with rfl | rfl
    · exact HV.out.1
    · exact HV.out.2))
  simp only [List.length_cons, List.length_nil, Nat.zero_add, Nat.reduceAdd] at HVAL
  go_wp2_with fail
  with_reducible refine (HVAL.out).mono ?_
  rintro e x54 ⟨rfl, hy⟩
  have hx := hx.trans (hl.trans hy)
  have Ka := Lib.hid (Ka.out.ext (hl.trans hy))
  have Kb := Lib.hid (Kb.out.ext (hl.trans hy))
  clear hl hy HROW HVAL
  clear ca0 ca1 cb0 cb1
  obtain ⟨hBa, hDa⟩ := okA_z HV.out.1
  obtain ⟨za, hza⟩ : ∃ z, sgn na (dval l) = z := ⟨_, rfl⟩
  have Va : Hid (BigV x54 (.agg #[.bool na, .slice aa qa ca]) za) := Lib.hid ⟨na, l, ⟨aa, ca, by rw [HLA.out], HI.out.ext hx⟩, by rw [← hza]; exact hBa⟩
  have Da : Hid ((digs za.natAbs).length ≤ 12) := Lib.hid (by rw [← hza]; exact hDa)
  clear hBa hDa hza
  obtain ⟨hBb, hDb⟩ := okA_z HV.out.2
  obtain ⟨zb, hzb⟩ : ∃ z, sgn nb (dval m) = z := ⟨_, rfl⟩
  have Vb : Hid (BigV x54 (.agg #[.bool nb, .slice ab qb cb]) zb) := Lib.hid ⟨nb, m, ⟨ab, cb, by rw [HLB.out], HJ.out.ext hx⟩, by rw [← hzb]; exact hBb⟩
  have Db : Hid ((digs zb.natAbs).length ≤ 12) := Lib.hid (by rw [← hzb]; exact hDb)
  clear hBb hDb hzb
  have La : Hid (Len za) := Lib.hid (Nat.le_trans Da.out (by omega))
  have Lb : Hid (Len zb) := Lib.hid (Nat.le_trans Db.out (by omega))
  obtain ⟨TA, hTA⟩ : ∃ T : ByteArray, ⟨(txtL za).toArray⟩ = T := ⟨_, rfl⟩
  have HTA := Lib.hid (show TA.data.toList = txtL za by rw [← hTA])
  have HCTA := Lib.hid (fun W (h : BigV W (.agg #[.bool na, .slice aa qa ca]) za) => text_val h La.out)
  unfold TextP at HCTA
  rw [hTA] at HCTA
  clear hTA
  have ca0 := Ka.out.cell (i := 0) (v := .bool na) rfl
  have ca1 := Ka.out.cell (i := 1) (v := .slice aa qa ca) rfl
  go_wp2_with fail
  with_reducible refine (HCTA.out _ Va.out).mono ?_
  rintro e x55 ⟨rfl, hy⟩
  have hx := hx.trans hy
  have Ka := Lib.hid (Ka.out.ext hy)
  have Kb := Lib.hid (Kb.out.ext hy)
  have Va := Lib.hid (Va.out.ext hy)
  have Vb := Lib.hid (Vb.out.ext hy)
  clear hy
  clear ca0 ca1
  obtain ⟨TB, hTB⟩ : ∃ T : ByteArray, ⟨(txtL zb).toArray⟩ = T := ⟨_, rfl⟩
  have HTB := Lib.hid (show TB.data.toList = txtL zb by rw [← hTB])
  have HCTB := Lib.hid (fun W (h : BigV W (.agg #[.bool nb, .slice ab qb cb]) zb) => text_val h Lb.out)
  unfold TextP at HCTB
  rw [hTB] at HCTB
  clear hTB
  have cb0 := Kb.out.cell (i := 0) (v := .bool nb) rfl
  have cb1 := Kb.out.cell (i := 1) (v := .slice ab qb cb) rfl
  go_wp2_with fail
  with_reducible refine (HCTB.out _ Vb.out).mono ?_
  rintro e x56 ⟨rfl, hy⟩
  have hx := hx.trans hy
  have Ka := Lib.hid (Ka.out.ext hy)
  have Kb := Lib.hid (Kb.out.ext hy)
  have Va := Lib.hid (Va.out.ext hy)
  have Vb := Lib.hid (Vb.out.ext hy)
  clear hy
  clear cb0 cb1
  have HRD : Hid (∀ W, Calls Tryd.prog 23 #[.string TA] W (OneP za W)) := Lib.hid (fun W => (read_val TA W (by rw [Lib.size_eq, HTA.out]; exact txt_len Da.out)).mono fun _ _ h => h.2 za (by rw [HTA.out]; exact read_text za))
  go_wp2_with fail
  with_reducible refine (HRD.out _).mono ?_
  rintro e x57 ⟨v, rfl, hv, hy⟩
  have hv := hv.val
  have hx := hx.trans hy
  have Ka := Lib.hid (Ka.out.ext hy)
  have Kb := Lib.hid (Kb.out.ext hy)
  have Va := Lib.hid (Va.out.ext hy)
  have Vb := Lib.hid (Vb.out.ext hy)
  clear hy
  obtain ⟨nx, ax, qx, cx, rfl⟩ := hv.form
  have Vx := Lib.hid hv
  clear hv
  go_upto_region 19 with fail
  have hl := Ext.alloc x57 (.cells #[.bool nx, .slice ax qx cx] 24)
  have hx := hx.trans hl
  have Ka := Lib.hid (Ka.out.ext hl)
  have Kb := Lib.hid (Kb.out.ext hl)
  have Va := Lib.hid (Va.out.ext hl)
  have Vb := Lib.hid (Vb.out.ext hl)
  have Vx := Lib.hid (Vx.out.ext hl)
  have Kx := Lib.hid (Blk.new0 x57 #[.bool nx, .slice ax qx cx] 24)
  clear hl
  generalize x57.alloc (.cells #[.bool nx, .slice ax qx cx] 24) = x58 at *
  generalize x57.heap.size = px at *
  obtain ⟨fv, hfv⟩ : ∃ v, fitV za = v := ⟨_, rfl⟩
  obtain ⟨fb, hfb⟩ : ∃ b, fitI za = b := ⟨_, rfl⟩
  have HIN := Lib.hid (fun W (h : BigV W (.agg #[.bool na, .slice aa qa ca]) za) => int_val h La.out)
  rw [hfv, hfb] at HIN
  have HFV := Lib.hid hfv
  have HFB := Lib.hid hfb
  clear hfv hfb
  have ca0 := Ka.out.cell (i := 0) (v := .bool na) rfl
  have ca1 := Ka.out.cell (i := 1) (v := .slice aa qa ca) rfl
  go_wp2_with fail
  with_reducible refine (HIN.out _ Va.out).mono ?_
  rintro e x59 ⟨rfl, hy⟩
  have hx := hx.trans hy
  have Ka := Lib.hid (Ka.out.ext hy)
  have Kb := Lib.hid (Kb.out.ext hy)
  have Va := Lib.hid (Va.out.ext hy)
  have Vb := Lib.hid (Vb.out.ext hy)
  have Vx := Lib.hid (Vx.out.ext hy)
  have Kx := Lib.hid (Kx.out.ext hy)
  clear hy
  clear ca0 ca1
  go_upto_region 20 with fail
  obtain ⟨eq, heq⟩ : ∃ b, decide (za = zb) = b := ⟨_, rfl⟩
  have hstr : (TA.toList == TB.toList) = eq := by
    rw [str_eq, HTA.out, HTB.out, ← heq]
    by_cases h : za = zb
    · rw [h]; simp
    · rw [decide_eq_false h, decide_eq_false (fun e => h (txt_inj e))]
  have HEQ := Lib.hid heq
  clear heq
  have ca0 := Ka.out.cell (i := 0) (v := .bool na) rfl
  have ca1 := Ka.out.cell (i := 1) (v := .slice aa qa ca) rfl
  have cb0 := Kb.out.cell (i := 0) (v := .bool nb) rfl
  have cb1 := Kb.out.cell (i := 1) (v := .slice ab qb cb) rfl
  have cx0 := Kx.out.cell (i := 0) (v := .bool nx) rfl
  have cx1 := Kx.out.cell (i := 1) (v := .slice ax qx cx) rfl
  have hE : Ext x59 x59.drew := (Ext.refl _).drew
  cases fb
  · skip
    refine wp_region_held_drew (S := (fun w' => w'.cell? ⟨w.heap.size, 0, none⟩ = some (.bool na) ∧ w'.cell? ⟨w.heap.size, 1, none⟩ = some (.slice aa qa ca) ∧ w'.cell? ⟨w.heap.size + 1, 0, none⟩ = some (.bool nb) ∧ w'.cell? ⟨w.heap.size + 1, 1, none⟩ = some (.slice ab qb cb) ∧ w'.cell? ⟨px, 0, none⟩ = some (.bool nx) ∧ w'.cell? ⟨px, 1, none⟩ = some (.slice ax qx cx))) (by kernel_rfl) ?_ (fun hHeld => ?_)
    · (first | exact ⟨cell_ext hy hHeld.1, cell_ext hy hHeld.2.1, cell_ext hy hHeld.2.2.1, cell_ext hy hHeld.2.2.2.1, cell_ext hy hHeld.2.2.2.2.1, cell_ext hy hHeld.2.2.2.2.2⟩ | exact ⟨ca0, ca1, cb0, cb1, cx0, cx1⟩ | exact hHeld)
    refine wpAnyH_take (i := 0) (oi := _) (v := ?_) rfl (by kernel_rfl) (by kernel_rfl) (by kernel_rfl) (fun _ _ _ h => h) (Or.inl ⟨by rfl, ?_⟩) (by assumption) ?_
    rotate_left
    · (intro w hSw; (try dsimp only at hSw); (try go_simp); (try with_reducible rfl))
    (try simp only [Act.put, List.getElem_toArray, List.getElem_cons_succ, List.getElem_cons_zero, List.setIfInBounds_toArray, List.set_cons_zero, List.set_cons_succ])
    refine wpAnyH_take (i := 1) (oi := _) (v := ?_) rfl (by kernel_rfl) (by kernel_rfl) (by kernel_rfl) (fun _ _ _ h => h) (Or.inl ⟨by rfl, ?_⟩) (by assumption) ?_
    rotate_left
    · (intro w hSw; (try dsimp only at hSw); (try go_simp); (try with_reducible rfl))
    (try simp only [Act.put, List.getElem_toArray, List.getElem_cons_succ, List.getElem_cons_zero, List.setIfInBounds_toArray, List.set_cons_zero, List.set_cons_succ])
    refine wpAnyH_take (i := 2) (oi := _) (v := ?_) rfl (by kernel_rfl) (by kernel_rfl) (by kernel_rfl) (fun _ _ _ h => h) (Or.inl ⟨by rfl, ?_⟩) (by assumption) ?_
    rotate_left
    · (intro w hSw; (try dsimp only at hSw); (try go_simp); (try with_reducible rfl))
    (try simp only [Act.put, List.getElem_toArray, List.getElem_cons_succ, List.getElem_cons_zero, List.setIfInBounds_toArray, List.set_cons_zero, List.set_cons_succ])
    refine wpAnyH_take (i := 3) (oi := _) (v := ?_) rfl (by kernel_rfl) (by kernel_rfl) (by kernel_rfl) (fun _ _ _ h => h) (Or.inl ⟨by rfl, ?_⟩) (by assumption) ?_
    rotate_left
    · (intro w hSw; (try dsimp only at hSw); (try go_simp); (try with_reducible rfl))
    (try simp only [Act.put, List.getElem_toArray, List.getElem_cons_succ, List.getElem_cons_zero, List.setIfInBounds_toArray, List.set_cons_zero, List.set_cons_succ])
    refine wpAnyH_take (i := 4) (oi := _) (v := ?_) rfl (by kernel_rfl) (by kernel_rfl) (by kernel_rfl) (fun _ _ _ h => h) (Or.inl ⟨by rfl, ?_⟩) (by assumption) ?_
    rotate_left
    · (intro w hSw; (try dsimp only at hSw); (try go_simp); (try with_reducible rfl))
    (try simp only [Act.put, List.getElem_toArray, List.getElem_cons_succ, List.getElem_cons_zero, List.setIfInBounds_toArray, List.set_cons_zero, List.set_cons_succ])
    refine wpAnyH_take (i := 5) (oi := _) (v := ?_) rfl (by kernel_rfl) (by kernel_rfl) (by kernel_rfl) (fun _ _ _ h => h) (Or.inl ⟨by rfl, ?_⟩) (by assumption) ?_
    rotate_left
    · (intro w hSw; (try dsimp only at hSw); (try go_simp); (try with_reducible rfl))
    (try simp only [Act.put, List.getElem_toArray, List.getElem_cons_succ, List.getElem_cons_zero, List.setIfInBounds_toArray, List.set_cons_zero, List.set_cons_succ])
    refine wpAnyH_take (i := 6) (oi := _) (v := ?_) rfl (by kernel_rfl) (by kernel_rfl) (by kernel_rfl) (fun _ _ _ h => h) (Or.inl ⟨by rfl, ?_⟩) (by assumption) ?_
    rotate_left
    · (intro w hSw; (try dsimp only at hSw); (try go_simp); (try with_reducible rfl))
    (try simp only [Act.put, List.getElem_toArray, List.getElem_cons_succ, List.getElem_cons_zero, List.setIfInBounds_toArray, List.set_cons_zero, List.set_cons_succ])
    refine wpAnyH_take (i := 7) (oi := _) (v := ?_) rfl (by kernel_rfl) (by kernel_rfl) (by kernel_rfl) (fun _ _ _ h => h) (Or.inl ⟨by rfl, ?_⟩) (by assumption) ?_
    rotate_left
    · (intro w hSw; (try dsimp only at hSw); (try go_simp); (try with_reducible rfl))
    (try simp only [Act.put, List.getElem_toArray, List.getElem_cons_succ, List.getElem_cons_zero, List.setIfInBounds_toArray, List.set_cons_zero, List.set_cons_succ])
    refine wpAnyH_take (i := 8) (oi := _) (v := ?_) rfl (by kernel_rfl) (by kernel_rfl) (by kernel_rfl) (fun _ _ _ h => h) (Or.inl ⟨by rfl, ?_⟩) (by assumption) ?_
    rotate_left
    · (intro w hSw; (try dsimp only at hSw); (try go_simp); (try with_reducible rfl))
    (try simp only [Act.put, List.getElem_toArray, List.getElem_cons_succ, List.getElem_cons_zero, List.setIfInBounds_toArray, List.set_cons_zero, List.set_cons_succ])
    refine wpAnyH_take (i := 9) (oi := _) (v := ?_) rfl (by kernel_rfl) (by kernel_rfl) (by kernel_rfl) (fun _ _ _ h => h) (Or.inl ⟨by rfl, ?_⟩) (by assumption) ?_
    rotate_left
    · (intro w hSw; (try dsimp only at hSw); (try go_simp); (try with_reducible rfl))
    (try simp only [Act.put, List.getElem_toArray, List.getElem_cons_succ, List.getElem_cons_zero, List.setIfInBounds_toArray, List.set_cons_zero, List.set_cons_succ])
    refine wpAnyH_take (i := 10) (oi := _) (v := ?_) rfl (by kernel_rfl) (by kernel_rfl) (by kernel_rfl) (fun _ _ _ h => h) (Or.inl ⟨by rfl, ?_⟩) (by assumption) ?_
    rotate_left
    · (intro w hSw; (try dsimp only at hSw); (try go_simp); (try with_reducible rfl))
    (try simp only [Act.put, List.getElem_toArray, List.getElem_cons_succ, List.getElem_cons_zero, List.setIfInBounds_toArray, List.set_cons_zero, List.set_cons_succ])
    refine wpAnyH_take (i := 11) (oi := _) (v := ?_) rfl (by kernel_rfl) (by kernel_rfl) (by kernel_rfl) (fun _ _ _ h => h) (Or.inl ⟨by rfl, ?_⟩) (by assumption) ?_
    rotate_left
    · (intro w hSw; (try dsimp only at hSw); (try go_simp); (try with_reducible rfl))
    (try simp only [Act.put, List.getElem_toArray, List.getElem_cons_succ, List.getElem_cons_zero, List.setIfInBounds_toArray, List.set_cons_zero, List.set_cons_succ])
    refine wpAnyH_take (i := 12) (oi := _) (v := ?_) rfl (by kernel_rfl) (by kernel_rfl) (by kernel_rfl) (fun _ _ _ h => h) (Or.inl ⟨by rfl, ?_⟩) (by assumption) ?_
    rotate_left
    · (intro w hSw; (try dsimp only at hSw); (try go_simp); (try with_reducible rfl))
    (try simp only [Act.put, List.getElem_toArray, List.getElem_cons_succ, List.getElem_cons_zero, List.setIfInBounds_toArray, List.set_cons_zero, List.set_cons_succ])
    refine wpAnyH_take (i := 13) (oi := _) (v := ?_) rfl (by kernel_rfl) (by kernel_rfl) (by kernel_rfl) (fun _ _ _ h => h) (Or.inl ⟨by rfl, ?_⟩) (by assumption) ?_
    rotate_left
    · (intro w hSw; (try dsimp only at hSw); (try go_simp); (try with_reducible rfl))
    (try simp only [Act.put, List.getElem_toArray, List.getElem_cons_succ, List.getElem_cons_zero, List.setIfInBounds_toArray, List.set_cons_zero, List.set_cons_succ])
    refine wpAnyH_take (i := 14) (oi := _) (v := ?_) rfl (by kernel_rfl) (by kernel_rfl) (by kernel_rfl) (fun _ _ _ h => h) (Or.inl ⟨by rfl, ?_⟩) (by assumption) ?_
    rotate_left
    · (intro w hSw; (try dsimp only at hSw); (try go_simp); (try with_reducible rfl))
    (try simp only [Act.put, List.getElem_toArray, List.getElem_cons_succ, List.getElem_cons_zero, List.setIfInBounds_toArray, List.set_cons_zero, List.set_cons_succ])
    refine wpAnyH_take (i := 15) (oi := _) (v := ?_) rfl (by kernel_rfl) (by kernel_rfl) (by kernel_rfl) (fun _ _ _ h => h) (Or.inl ⟨by rfl, ?_⟩) (by assumption) ?_
    rotate_left
    · (intro w hSw; (try dsimp only at hSw); (try go_simp); (try with_reducible rfl))
    (try simp only [Act.put, List.getElem_toArray, List.getElem_cons_succ, List.getElem_cons_zero, List.setIfInBounds_toArray, List.set_cons_zero, List.set_cons_succ])
    refine wpAnyH_take (i := 16) (oi := _) (v := ?_) rfl (by kernel_rfl) (by kernel_rfl) (by kernel_rfl) (fun _ _ _ h => h) (Or.inl ⟨by rfl, ?_⟩) (by assumption) ?_
    rotate_left
    · (intro w hSw; (try dsimp only at hSw); (try go_simp); (try with_reducible rfl))
    (try simp only [Act.put, List.getElem_toArray, List.getElem_cons_succ, List.getElem_cons_zero, List.setIfInBounds_toArray, List.set_cons_zero, List.set_cons_succ])
    refine wpAnyH_ready (rs := [17]) (by kernel_rfl) (by simp) ?_
    refine AllReadyH.cons (o := _) rfl (fun K hK => ?_) ?_
    · go_simp
      (with_reducible refine (sameT (Vx.out.ext hE) (Va.out.ext hE) rfl).mono ?_); rintro e y1 ⟨rfl, hy⟩; have hE := hE.trans hy
      refine hK.out _ _ ?_ (fun hHeld2 => ?_)
      · (first | exact ⟨cell_ext hy hHeld.1, cell_ext hy hHeld.2.1, cell_ext hy hHeld.2.2.1, cell_ext hy hHeld.2.2.2.1, cell_ext hy hHeld.2.2.2.2.1, cell_ext hy hHeld.2.2.2.2.2⟩ | exact ⟨ca0, ca1, cb0, cb1, cx0, cx1⟩ | exact hHeld)
      clear hK K hHeld
      have hHeld := hHeld2
      clear hHeld2
      (try simp only [Act.put, List.getElem_toArray, List.getElem_cons_succ, List.getElem_cons_zero, List.setIfInBounds_toArray, List.set_cons_zero, List.set_cons_succ])
      refine wpAnyH_take (i := 18) (oi := _) (v := ?_) rfl (by kernel_rfl) (by kernel_rfl) (by kernel_rfl) (fun _ _ _ h => h) (Or.inl ⟨by rfl, ?_⟩) (by assumption) ?_
      rotate_left
      · (intro w hSw; (try dsimp only at hSw); (try go_simp); (try with_reducible rfl))
      (try simp only [Act.put, List.getElem_toArray, List.getElem_cons_succ, List.getElem_cons_zero, List.setIfInBounds_toArray, List.set_cons_zero, List.set_cons_succ])
      refine wpAnyH_take (i := 19) (oi := _) (v := ?_) rfl (by kernel_rfl) (by kernel_rfl) (by kernel_rfl) (fun _ _ _ h => h) (Or.inl ⟨by rfl, ?_⟩) (by assumption) ?_
      rotate_left
      · (intro w hSw; (try dsimp only at hSw); (try go_simp); (try with_reducible rfl))
      (try simp only [Act.put, List.getElem_toArray, List.getElem_cons_succ, List.getElem_cons_zero, List.setIfInBounds_toArray, List.set_cons_zero, List.set_cons_succ])
      refine wpAnyH_take (i := 20) (oi := _) (v := ?_) rfl (by kernel_rfl) (by kernel_rfl) (by kernel_rfl) (fun _ _ _ h => h) (Or.inl ⟨by rfl, ?_⟩) (by assumption) ?_
      rotate_left
      · (intro w hSw; (try dsimp only at hSw); (try go_simp); (try with_reducible rfl))
      (try simp only [Act.put, List.getElem_toArray, List.getElem_cons_succ, List.getElem_cons_zero, List.setIfInBounds_toArray, List.set_cons_zero, List.set_cons_succ])
      refine wpAnyH_take (i := 21) (oi := _) (v := ?_) rfl (by kernel_rfl) (by kernel_rfl) (by kernel_rfl) (fun _ _ _ h => h) (Or.inl ⟨by rfl, ?_⟩) (by assumption) ?_
      rotate_left
      · (intro w hSw; (try dsimp only at hSw); (try go_simp); (try with_reducible rfl))
      (try simp only [Act.put, List.getElem_toArray, List.getElem_cons_succ, List.getElem_cons_zero, List.setIfInBounds_toArray, List.set_cons_zero, List.set_cons_succ])
      refine wpAnyH_take (i := 22) (oi := _) (v := ?_) rfl (by kernel_rfl) (by kernel_rfl) (by kernel_rfl) (fun _ _ _ h => h) (Or.inl ⟨by rfl, ?_⟩) (by assumption) ?_
      rotate_left
      · (intro w hSw; (try dsimp only at hSw); (try go_simp); (try with_reducible rfl))
      (try simp only [Act.put, List.getElem_toArray, List.getElem_cons_succ, List.getElem_cons_zero, List.setIfInBounds_toArray, List.set_cons_zero, List.set_cons_succ])
      refine wpAnyH_take (i := 23) (oi := _) (v := ?_) rfl (by kernel_rfl) (by kernel_rfl) (by kernel_rfl) (fun _ _ _ h => h) (Or.inl ⟨by rfl, ?_⟩) (by assumption) ?_
      rotate_left
      · (intro w hSw; (try dsimp only at hSw); (try go_simp); (try with_reducible rfl))
      (try simp only [Act.put, List.getElem_toArray, List.getElem_cons_succ, List.getElem_cons_zero, List.setIfInBounds_toArray, List.set_cons_zero, List.set_cons_succ])
      refine wpAnyH_take (i := 24) (oi := _) (v := ?_) rfl (by kernel_rfl) (by kernel_rfl) (by kernel_rfl) (fun _ _ _ h => h) (Or.inl ⟨by rfl, ?_⟩) (by assumption) ?_
      rotate_left
      · (intro w hSw; (try dsimp only at hSw); (try go_simp); (try with_reducible rfl))
      (try simp only [Act.put, List.getElem_toArray, List.getElem_cons_succ, List.getElem_cons_zero, List.setIfInBounds_toArray, List.set_cons_zero, List.set_cons_succ])
      refine wpAnyH_ready (rs := [25]) (by kernel_rfl) (by simp) ?_
      refine AllReadyH.cons (o := _) rfl (fun K hK => ?_) ?_
      · go_simp
        (with_reducible refine (ref_Same_gen (Va.out.ext hE) (Vb.out.ext hE)).mono ?_); rintro e y2 ⟨rfl, hy⟩; rw [HEQ.out]; have hE := hE.trans hy
        refine hK.out _ _ ?_ (fun hHeld2 => ?_)
        · (first | exact ⟨cell_ext hy hHeld.1, cell_ext hy hHeld.2.1, cell_ext hy hHeld.2.2.1, cell_ext hy hHeld.2.2.2.1, cell_ext hy hHeld.2.2.2.2.1, cell_ext hy hHeld.2.2.2.2.2⟩ | exact ⟨ca0, ca1, cb0, cb1, cx0, cx1⟩ | exact hHeld)
        clear hK K hHeld
        have hHeld := hHeld2
        clear hHeld2
        (try simp only [Act.put, List.getElem_toArray, List.getElem_cons_succ, List.getElem_cons_zero, List.setIfInBounds_toArray, List.set_cons_zero, List.set_cons_succ])
        refine wpAnyH_take (i := 26) (oi := _) (v := ?_) rfl (by kernel_rfl) (by kernel_rfl) (by kernel_rfl) (fun _ _ _ h => h) (Or.inl ⟨by rfl, ?_⟩) (by assumption) ?_
        rotate_left
        · (intro w hSw; (try dsimp only at hSw); (try go_simp); (try with_reducible rfl))
        (try simp only [Act.put, List.getElem_toArray, List.getElem_cons_succ, List.getElem_cons_zero, List.setIfInBounds_toArray, List.set_cons_zero, List.set_cons_succ])
        refine wpAnyH_take (i := 27) (oi := _) (v := ?_) rfl (by kernel_rfl) (by kernel_rfl) (by kernel_rfl) (fun _ _ _ h => h) (Or.inl ⟨by rfl, ?_⟩) (by assumption) ?_
        rotate_left
        · (intro w hSw; (try dsimp only at hSw); (try go_simp); (try with_reducible rfl))
        (try simp only [Act.put, List.getElem_toArray, List.getElem_cons_succ, List.getElem_cons_zero, List.setIfInBounds_toArray, List.set_cons_zero, List.set_cons_succ])
        refine wpAnyH_take (i := 28) (oi := _) (v := ?_) rfl (by kernel_rfl) (by kernel_rfl) (by kernel_rfl) (fun _ _ _ h => h) (Or.inl ⟨by rfl, ?_⟩) (by assumption) ?_
        rotate_left
        · (intro w hSw; (try dsimp only at hSw); (try go_simp); (try with_reducible rfl))
        (try simp only [Act.put, List.getElem_toArray, List.getElem_cons_succ, List.getElem_cons_zero, List.setIfInBounds_toArray, List.set_cons_zero, List.set_cons_succ])
        refine wpAnyH_take (i := 29) (oi := _) (v := ?_) rfl (by kernel_rfl) (by kernel_rfl) (by kernel_rfl) (fun _ _ _ h => h) (Or.inl ⟨by rfl, ?_⟩) (by assumption) ?_
        rotate_left
        · (intro w hSw; (try dsimp only at hSw); (try go_simp); (try with_reducible rfl))
        (try simp only [Act.put, List.getElem_toArray, List.getElem_cons_succ, List.getElem_cons_zero, List.setIfInBounds_toArray, List.set_cons_zero, List.set_cons_succ])
        refine wpAnyH_take (i := 30) (oi := _) (v := ?_) rfl (by kernel_rfl) (by kernel_rfl) (by kernel_rfl) (fun _ _ _ h => h) (Or.inl ⟨by rfl, ?_⟩) (by assumption) ?_
        rotate_left
        · (intro w hSw; (try dsimp only at hSw); (try go_simp); (try with_reducible rfl))
        (try simp only [Act.put, List.getElem_toArray, List.getElem_cons_succ, List.getElem_cons_zero, List.setIfInBounds_toArray, List.set_cons_zero, List.set_cons_succ])
        refine wpAnyH_take (i := 31) (oi := _) (v := ?_) rfl (by kernel_rfl) (by kernel_rfl) (by kernel_rfl) (fun _ _ _ h => h) (Or.inl ⟨by rfl, ?_⟩) (by assumption) ?_
        rotate_left
        · (intro w hSw; (try dsimp only at hSw); (try go_simp); (try with_reducible rfl))
        (try simp only [Act.put, List.getElem_toArray, List.getElem_cons_succ, List.getElem_cons_zero, List.setIfInBounds_toArray, List.set_cons_zero, List.set_cons_succ])
        refine wpAnyH_take (i := 32) (oi := _) (v := undef) rfl (by kernel_rfl) (by kernel_rfl) (by kernel_rfl) (fun _ _ _ h => h) (Or.inr ⟨by rfl, rfl⟩) (by assumption) ?_
        (try simp only [Act.put, List.getElem_toArray, List.getElem_cons_succ, List.getElem_cons_zero, List.setIfInBounds_toArray, List.set_cons_zero, List.set_cons_succ])
        refine wpAnyH_take (i := 33) (oi := _) (v := undef) rfl (by kernel_rfl) (by kernel_rfl) (by kernel_rfl) (fun _ _ _ h => h) (Or.inr ⟨by rfl, rfl⟩) (by assumption) ?_
        (try simp only [Act.put, List.getElem_toArray, List.getElem_cons_succ, List.getElem_cons_zero, List.setIfInBounds_toArray, List.set_cons_zero, List.set_cons_succ])
        refine wpAnyH_take (i := 34) (oi := _) (v := undef) rfl (by kernel_rfl) (by kernel_rfl) (by kernel_rfl) (fun _ _ _ h => h) (Or.inr ⟨by rfl, rfl⟩) (by assumption) ?_
        (try simp only [Act.put, List.getElem_toArray, List.getElem_cons_succ, List.getElem_cons_zero, List.setIfInBounds_toArray, List.set_cons_zero, List.set_cons_succ])
        refine wpAnyH_take (i := 35) (oi := _) (v := undef) rfl (by kernel_rfl) (by kernel_rfl) (by kernel_rfl) (fun _ _ _ h => h) (Or.inr ⟨by rfl, rfl⟩) (by assumption) ?_
        (try simp only [Act.put, List.getElem_toArray, List.getElem_cons_succ, List.getElem_cons_zero, List.setIfInBounds_toArray, List.set_cons_zero, List.set_cons_succ])
        refine wpAnyH_take (i := 36) (oi := _) (v := ?_) rfl (by kernel_rfl) (by kernel_rfl) (by kernel_rfl) (fun _ _ _ h => h) (Or.inl ⟨by rfl, ?_⟩) (by assumption) ?_
        rotate_left
        · (intro w hSw; (try dsimp only at hSw); (try go_simp); (try with_reducible rfl))
        (try simp only [Act.put, List.getElem_toArray, List.getElem_cons_succ, List.getElem_cons_zero, List.setIfInBounds_toArray, List.set_cons_zero, List.set_cons_succ])
        refine wpAnyH_take (i := 37) (oi := _) (v := ?_) rfl (by kernel_rfl) (by kernel_rfl) (by kernel_rfl) (fun _ _ _ h => h) (Or.inl ⟨by rfl, ?_⟩) (by assumption) ?_
        rotate_left
        · (intro w hSw; (try dsimp only at hSw); (try go_simp); (try with_reducible rfl))
        (try simp only [Act.put, List.getElem_toArray, List.getElem_cons_succ, List.getElem_cons_zero, List.setIfInBounds_toArray, List.set_cons_zero, List.set_cons_succ])
        refine wpAnyH_take (i := 38) (oi := _) (v := ?_) rfl (by kernel_rfl) (by kernel_rfl) (by kernel_rfl) (fun _ _ _ h => h) (Or.inl ⟨by rfl, ?_⟩) (by assumption) ?_
        rotate_left
        · (intro w hSw; (try dsimp only at hSw); (try go_simp); (try with_reducible rfl))
        (try simp only [Act.put, List.getElem_toArray, List.getElem_cons_succ, List.getElem_cons_zero, List.setIfInBounds_toArray, List.set_cons_zero, List.set_cons_succ])
        refine wpAnyH_done (by kernel_rfl) ?_ _
        (go_wp2_with fail; go_ret; exact ⟨rfl, hx.trans hE⟩)
      exact AllReadyH.nil
    exact AllReadyH.nil
  · have hff : fitV za = za := by
      have h := HFB.out
      unfold fitV; rw [if_pos h]
    have HFE := Lib.hid (show fv = za by rw [← HFV.out]; exact hff)
    have hfb : -9223372036854775808 ≤ fv ∧ fv ≤ 9223372036854775807 := by
      have h := HFB.out
      simp only [fitI, Bool.and_eq_true, decide_eq_true_eq] at h
      rw [HFE.out]; exact h
    have HMK2 := Lib.hid (fun W => nat_Make fv W hfb)
    clear hfb hff
    refine wp_region_held_drew (S := (fun w' => w'.cell? ⟨w.heap.size, 0, none⟩ = some (.bool na) ∧ w'.cell? ⟨w.heap.size, 1, none⟩ = some (.slice aa qa ca) ∧ w'.cell? ⟨w.heap.size + 1, 0, none⟩ = some (.bool nb) ∧ w'.cell? ⟨w.heap.size + 1, 1, none⟩ = some (.slice ab qb cb) ∧ w'.cell? ⟨px, 0, none⟩ = some (.bool nx) ∧ w'.cell? ⟨px, 1, none⟩ = some (.slice ax qx cx))) (by kernel_rfl) ?_ (fun hHeld => ?_)
    · (first | exact ⟨cell_ext hy hHeld.1, cell_ext hy hHeld.2.1, cell_ext hy hHeld.2.2.1, cell_ext hy hHeld.2.2.2.1, cell_ext hy hHeld.2.2.2.2.1, cell_ext hy hHeld.2.2.2.2.2⟩ | exact ⟨ca0, ca1, cb0, cb1, cx0, cx1⟩ | exact hHeld)
    refine wpAnyH_take (i := 0) (oi := _) (v := ?_) rfl (by kernel_rfl) (by kernel_rfl) (by kernel_rfl) (fun _ _ _ h => h) (Or.inl ⟨by rfl, ?_⟩) (by assumption) ?_
    rotate_left
    · (intro w hSw; (try dsimp only at hSw); (try go_simp); (try with_reducible rfl))
    (try simp only [Act.put, List.getElem_toArray, List.getElem_cons_succ, List.getElem_cons_zero, List.setIfInBounds_toArray, List.set_cons_zero, List.set_cons_succ])
    refine wpAnyH_take (i := 1) (oi := _) (v := ?_) rfl (by kernel_rfl) (by kernel_rfl) (by kernel_rfl) (fun _ _ _ h => h) (Or.inl ⟨by rfl, ?_⟩) (by assumption) ?_
    rotate_left
    · (intro w hSw; (try dsimp only at hSw); (try go_simp); (try with_reducible rfl))
    (try simp only [Act.put, List.getElem_toArray, List.getElem_cons_succ, List.getElem_cons_zero, List.setIfInBounds_toArray, List.set_cons_zero, List.set_cons_succ])
    refine wpAnyH_take (i := 2) (oi := _) (v := ?_) rfl (by kernel_rfl) (by kernel_rfl) (by kernel_rfl) (fun _ _ _ h => h) (Or.inl ⟨by rfl, ?_⟩) (by assumption) ?_
    rotate_left
    · (intro w hSw; (try dsimp only at hSw); (try go_simp); (try with_reducible rfl))
    (try simp only [Act.put, List.getElem_toArray, List.getElem_cons_succ, List.getElem_cons_zero, List.setIfInBounds_toArray, List.set_cons_zero, List.set_cons_succ])
    refine wpAnyH_take (i := 3) (oi := _) (v := ?_) rfl (by kernel_rfl) (by kernel_rfl) (by kernel_rfl) (fun _ _ _ h => h) (Or.inl ⟨by rfl, ?_⟩) (by assumption) ?_
    rotate_left
    · (intro w hSw; (try dsimp only at hSw); (try go_simp); (try with_reducible rfl))
    (try simp only [Act.put, List.getElem_toArray, List.getElem_cons_succ, List.getElem_cons_zero, List.setIfInBounds_toArray, List.set_cons_zero, List.set_cons_succ])
    refine wpAnyH_take (i := 4) (oi := _) (v := ?_) rfl (by kernel_rfl) (by kernel_rfl) (by kernel_rfl) (fun _ _ _ h => h) (Or.inl ⟨by rfl, ?_⟩) (by assumption) ?_
    rotate_left
    · (intro w hSw; (try dsimp only at hSw); (try go_simp); (try with_reducible rfl))
    (try simp only [Act.put, List.getElem_toArray, List.getElem_cons_succ, List.getElem_cons_zero, List.setIfInBounds_toArray, List.set_cons_zero, List.set_cons_succ])
    refine wpAnyH_take (i := 5) (oi := _) (v := ?_) rfl (by kernel_rfl) (by kernel_rfl) (by kernel_rfl) (fun _ _ _ h => h) (Or.inl ⟨by rfl, ?_⟩) (by assumption) ?_
    rotate_left
    · (intro w hSw; (try dsimp only at hSw); (try go_simp); (try with_reducible rfl))
    (try simp only [Act.put, List.getElem_toArray, List.getElem_cons_succ, List.getElem_cons_zero, List.setIfInBounds_toArray, List.set_cons_zero, List.set_cons_succ])
    refine wpAnyH_take (i := 6) (oi := _) (v := ?_) rfl (by kernel_rfl) (by kernel_rfl) (by kernel_rfl) (fun _ _ _ h => h) (Or.inl ⟨by rfl, ?_⟩) (by assumption) ?_
    rotate_left
    · (intro w hSw; (try dsimp only at hSw); (try go_simp); (try with_reducible rfl))
    (try simp only [Act.put, List.getElem_toArray, List.getElem_cons_succ, List.getElem_cons_zero, List.setIfInBounds_toArray, List.set_cons_zero, List.set_cons_succ])
    refine wpAnyH_take (i := 7) (oi := _) (v := ?_) rfl (by kernel_rfl) (by kernel_rfl) (by kernel_rfl) (fun _ _ _ h => h) (Or.inl ⟨by rfl, ?_⟩) (by assumption) ?_
    rotate_left
    · (intro w hSw; (try dsimp only at hSw); (try go_simp); (try with_reducible rfl))
    (try simp only [Act.put, List.getElem_toArray, List.getElem_cons_succ, List.getElem_cons_zero, List.setIfInBounds_toArray, List.set_cons_zero, List.set_cons_succ])
    refine wpAnyH_take (i := 8) (oi := _) (v := ?_) rfl (by kernel_rfl) (by kernel_rfl) (by kernel_rfl) (fun _ _ _ h => h) (Or.inl ⟨by rfl, ?_⟩) (by assumption) ?_
    rotate_left
    · (intro w hSw; (try dsimp only at hSw); (try go_simp); (try with_reducible rfl))
    (try simp only [Act.put, List.getElem_toArray, List.getElem_cons_succ, List.getElem_cons_zero, List.setIfInBounds_toArray, List.set_cons_zero, List.set_cons_succ])
    refine wpAnyH_take (i := 9) (oi := _) (v := ?_) rfl (by kernel_rfl) (by kernel_rfl) (by kernel_rfl) (fun _ _ _ h => h) (Or.inl ⟨by rfl, ?_⟩) (by assumption) ?_
    rotate_left
    · (intro w hSw; (try dsimp only at hSw); (try go_simp); (try with_reducible rfl))
    (try simp only [Act.put, List.getElem_toArray, List.getElem_cons_succ, List.getElem_cons_zero, List.setIfInBounds_toArray, List.set_cons_zero, List.set_cons_succ])
    refine wpAnyH_take (i := 10) (oi := _) (v := ?_) rfl (by kernel_rfl) (by kernel_rfl) (by kernel_rfl) (fun _ _ _ h => h) (Or.inl ⟨by rfl, ?_⟩) (by assumption) ?_
    rotate_left
    · (intro w hSw; (try dsimp only at hSw); (try go_simp); (try with_reducible rfl))
    (try simp only [Act.put, List.getElem_toArray, List.getElem_cons_succ, List.getElem_cons_zero, List.setIfInBounds_toArray, List.set_cons_zero, List.set_cons_succ])
    refine wpAnyH_take (i := 11) (oi := _) (v := ?_) rfl (by kernel_rfl) (by kernel_rfl) (by kernel_rfl) (fun _ _ _ h => h) (Or.inl ⟨by rfl, ?_⟩) (by assumption) ?_
    rotate_left
    · (intro w hSw; (try dsimp only at hSw); (try go_simp); (try with_reducible rfl))
    (try simp only [Act.put, List.getElem_toArray, List.getElem_cons_succ, List.getElem_cons_zero, List.setIfInBounds_toArray, List.set_cons_zero, List.set_cons_succ])
    refine wpAnyH_take (i := 12) (oi := _) (v := ?_) rfl (by kernel_rfl) (by kernel_rfl) (by kernel_rfl) (fun _ _ _ h => h) (Or.inl ⟨by rfl, ?_⟩) (by assumption) ?_
    rotate_left
    · (intro w hSw; (try dsimp only at hSw); (try go_simp); (try with_reducible rfl))
    (try simp only [Act.put, List.getElem_toArray, List.getElem_cons_succ, List.getElem_cons_zero, List.setIfInBounds_toArray, List.set_cons_zero, List.set_cons_succ])
    refine wpAnyH_take (i := 13) (oi := _) (v := ?_) rfl (by kernel_rfl) (by kernel_rfl) (by kernel_rfl) (fun _ _ _ h => h) (Or.inl ⟨by rfl, ?_⟩) (by assumption) ?_
    rotate_left
    · (intro w hSw; (try dsimp only at hSw); (try go_simp); (try with_reducible rfl))
    (try simp only [Act.put, List.getElem_toArray, List.getElem_cons_succ, List.getElem_cons_zero, List.setIfInBounds_toArray, List.set_cons_zero, List.set_cons_succ])
    refine wpAnyH_take (i := 14) (oi := _) (v := ?_) rfl (by kernel_rfl) (by kernel_rfl) (by kernel_rfl) (fun _ _ _ h => h) (Or.inl ⟨by rfl, ?_⟩) (by assumption) ?_
    rotate_left
    · (intro w hSw; (try dsimp only at hSw); (try go_simp); (try with_reducible rfl))
    (try simp only [Act.put, List.getElem_toArray, List.getElem_cons_succ, List.getElem_cons_zero, List.setIfInBounds_toArray, List.set_cons_zero, List.set_cons_succ])
    refine wpAnyH_take (i := 15) (oi := _) (v := ?_) rfl (by kernel_rfl) (by kernel_rfl) (by kernel_rfl) (fun _ _ _ h => h) (Or.inl ⟨by rfl, ?_⟩) (by assumption) ?_
    rotate_left
    · (intro w hSw; (try dsimp only at hSw); (try go_simp); (try with_reducible rfl))
    (try simp only [Act.put, List.getElem_toArray, List.getElem_cons_succ, List.getElem_cons_zero, List.setIfInBounds_toArray, List.set_cons_zero, List.set_cons_succ])
    refine wpAnyH_take (i := 16) (oi := _) (v := ?_) rfl (by kernel_rfl) (by kernel_rfl) (by kernel_rfl) (fun _ _ _ h => h) (Or.inl ⟨by rfl, ?_⟩) (by assumption) ?_
    rotate_left
    · (intro w hSw; (try dsimp only at hSw); (try go_simp); (try with_reducible rfl))
    (try simp only [Act.put, List.getElem_toArray, List.getElem_cons_succ, List.getElem_cons_zero, List.setIfInBounds_toArray, List.set_cons_zero, List.set_cons_succ])
    refine wpAnyH_ready (rs := [17]) (by kernel_rfl) (by simp) ?_
    refine AllReadyH.cons (o := _) rfl (fun K hK => ?_) ?_
    · go_simp
      (with_reducible refine (sameT (Vx.out.ext hE) (Va.out.ext hE) rfl).mono ?_); rintro e y1 ⟨rfl, hy⟩; have hE := hE.trans hy
      refine hK.out _ _ ?_ (fun hHeld2 => ?_)
      · (first | exact ⟨cell_ext hy hHeld.1, cell_ext hy hHeld.2.1, cell_ext hy hHeld.2.2.1, cell_ext hy hHeld.2.2.2.1, cell_ext hy hHeld.2.2.2.2.1, cell_ext hy hHeld.2.2.2.2.2⟩ | exact ⟨ca0, ca1, cb0, cb1, cx0, cx1⟩ | exact hHeld)
      clear hK K hHeld
      have hHeld := hHeld2
      clear hHeld2
      (try simp only [Act.put, List.getElem_toArray, List.getElem_cons_succ, List.getElem_cons_zero, List.setIfInBounds_toArray, List.set_cons_zero, List.set_cons_succ])
      refine wpAnyH_take (i := 18) (oi := _) (v := ?_) rfl (by kernel_rfl) (by kernel_rfl) (by kernel_rfl) (fun _ _ _ h => h) (Or.inl ⟨by rfl, ?_⟩) (by assumption) ?_
      rotate_left
      · (intro w hSw; (try dsimp only at hSw); (try go_simp); (try with_reducible rfl))
      (try simp only [Act.put, List.getElem_toArray, List.getElem_cons_succ, List.getElem_cons_zero, List.setIfInBounds_toArray, List.set_cons_zero, List.set_cons_succ])
      refine wpAnyH_take (i := 19) (oi := _) (v := ?_) rfl (by kernel_rfl) (by kernel_rfl) (by kernel_rfl) (fun _ _ _ h => h) (Or.inl ⟨by rfl, ?_⟩) (by assumption) ?_
      rotate_left
      · (intro w hSw; (try dsimp only at hSw); (try go_simp); (try with_reducible rfl))
      (try simp only [Act.put, List.getElem_toArray, List.getElem_cons_succ, List.getElem_cons_zero, List.setIfInBounds_toArray, List.set_cons_zero, List.set_cons_succ])
      refine wpAnyH_take (i := 20) (oi := _) (v := ?_) rfl (by kernel_rfl) (by kernel_rfl) (by kernel_rfl) (fun _ _ _ h => h) (Or.inl ⟨by rfl, ?_⟩) (by assumption) ?_
      rotate_left
      · (intro w hSw; (try dsimp only at hSw); (try go_simp); (try with_reducible rfl))
      (try simp only [Act.put, List.getElem_toArray, List.getElem_cons_succ, List.getElem_cons_zero, List.setIfInBounds_toArray, List.set_cons_zero, List.set_cons_succ])
      refine wpAnyH_take (i := 21) (oi := _) (v := ?_) rfl (by kernel_rfl) (by kernel_rfl) (by kernel_rfl) (fun _ _ _ h => h) (Or.inl ⟨by rfl, ?_⟩) (by assumption) ?_
      rotate_left
      · (intro w hSw; (try dsimp only at hSw); (try go_simp); (try with_reducible rfl))
      (try simp only [Act.put, List.getElem_toArray, List.getElem_cons_succ, List.getElem_cons_zero, List.setIfInBounds_toArray, List.set_cons_zero, List.set_cons_succ])
      refine wpAnyH_take (i := 22) (oi := _) (v := ?_) rfl (by kernel_rfl) (by kernel_rfl) (by kernel_rfl) (fun _ _ _ h => h) (Or.inl ⟨by rfl, ?_⟩) (by assumption) ?_
      rotate_left
      · (intro w hSw; (try dsimp only at hSw); (try go_simp); (try with_reducible rfl))
      (try simp only [Act.put, List.getElem_toArray, List.getElem_cons_succ, List.getElem_cons_zero, List.setIfInBounds_toArray, List.set_cons_zero, List.set_cons_succ])
      refine wpAnyH_take (i := 23) (oi := _) (v := ?_) rfl (by kernel_rfl) (by kernel_rfl) (by kernel_rfl) (fun _ _ _ h => h) (Or.inl ⟨by rfl, ?_⟩) (by assumption) ?_
      rotate_left
      · (intro w hSw; (try dsimp only at hSw); (try go_simp); (try with_reducible rfl))
      (try simp only [Act.put, List.getElem_toArray, List.getElem_cons_succ, List.getElem_cons_zero, List.setIfInBounds_toArray, List.set_cons_zero, List.set_cons_succ])
      refine wpAnyH_take (i := 24) (oi := _) (v := ?_) rfl (by kernel_rfl) (by kernel_rfl) (by kernel_rfl) (fun _ _ _ h => h) (Or.inl ⟨by rfl, ?_⟩) (by assumption) ?_
      rotate_left
      · (intro w hSw; (try dsimp only at hSw); (try go_simp); (try with_reducible rfl))
      (try simp only [Act.put, List.getElem_toArray, List.getElem_cons_succ, List.getElem_cons_zero, List.setIfInBounds_toArray, List.set_cons_zero, List.set_cons_succ])
      refine wpAnyH_ready (rs := [25]) (by kernel_rfl) (by simp) ?_
      refine AllReadyH.cons (o := _) rfl (fun K hK => ?_) ?_
      · go_simp
        (with_reducible refine (ref_Same_gen (Va.out.ext hE) (Vb.out.ext hE)).mono ?_); rintro e y2 ⟨rfl, hy⟩; rw [HEQ.out]; have hE := hE.trans hy
        refine hK.out _ _ ?_ (fun hHeld2 => ?_)
        · (first | exact ⟨cell_ext hy hHeld.1, cell_ext hy hHeld.2.1, cell_ext hy hHeld.2.2.1, cell_ext hy hHeld.2.2.2.1, cell_ext hy hHeld.2.2.2.2.1, cell_ext hy hHeld.2.2.2.2.2⟩ | exact ⟨ca0, ca1, cb0, cb1, cx0, cx1⟩ | exact hHeld)
        clear hK K hHeld
        have hHeld := hHeld2
        clear hHeld2
        (try simp only [Act.put, List.getElem_toArray, List.getElem_cons_succ, List.getElem_cons_zero, List.setIfInBounds_toArray, List.set_cons_zero, List.set_cons_succ])
        refine wpAnyH_take (i := 26) (oi := _) (v := ?_) rfl (by kernel_rfl) (by kernel_rfl) (by kernel_rfl) (fun _ _ _ h => h) (Or.inl ⟨by rfl, ?_⟩) (by assumption) ?_
        rotate_left
        · (intro w hSw; (try dsimp only at hSw); (try go_simp); (try with_reducible rfl))
        (try simp only [Act.put, List.getElem_toArray, List.getElem_cons_succ, List.getElem_cons_zero, List.setIfInBounds_toArray, List.set_cons_zero, List.set_cons_succ])
        refine wpAnyH_take (i := 27) (oi := _) (v := ?_) rfl (by kernel_rfl) (by kernel_rfl) (by kernel_rfl) (fun _ _ _ h => h) (Or.inl ⟨by rfl, ?_⟩) (by assumption) ?_
        rotate_left
        · (intro w hSw; (try dsimp only at hSw); (try go_simp); (try with_reducible rfl))
        (try simp only [Act.put, List.getElem_toArray, List.getElem_cons_succ, List.getElem_cons_zero, List.setIfInBounds_toArray, List.set_cons_zero, List.set_cons_succ])
        refine wpAnyH_take (i := 28) (oi := _) (v := ?_) rfl (by kernel_rfl) (by kernel_rfl) (by kernel_rfl) (fun _ _ _ h => h) (Or.inl ⟨by rfl, ?_⟩) (by assumption) ?_
        rotate_left
        · (intro w hSw; (try dsimp only at hSw); (try go_simp); (try with_reducible rfl))
        (try simp only [Act.put, List.getElem_toArray, List.getElem_cons_succ, List.getElem_cons_zero, List.setIfInBounds_toArray, List.set_cons_zero, List.set_cons_succ])
        refine wpAnyH_take (i := 29) (oi := _) (v := ?_) rfl (by kernel_rfl) (by kernel_rfl) (by kernel_rfl) (fun _ _ _ h => h) (Or.inl ⟨by rfl, ?_⟩) (by assumption) ?_
        rotate_left
        · (intro w hSw; (try dsimp only at hSw); (try go_simp); (try with_reducible rfl))
        (try simp only [Act.put, List.getElem_toArray, List.getElem_cons_succ, List.getElem_cons_zero, List.setIfInBounds_toArray, List.set_cons_zero, List.set_cons_succ])
        refine wpAnyH_take (i := 30) (oi := _) (v := ?_) rfl (by kernel_rfl) (by kernel_rfl) (by kernel_rfl) (fun _ _ _ h => h) (Or.inl ⟨by rfl, ?_⟩) (by assumption) ?_
        rotate_left
        · (intro w hSw; (try dsimp only at hSw); (try go_simp); (try with_reducible rfl))
        (try simp only [Act.put, List.getElem_toArray, List.getElem_cons_succ, List.getElem_cons_zero, List.setIfInBounds_toArray, List.set_cons_zero, List.set_cons_succ])
        refine wpAnyH_take (i := 31) (oi := _) (v := ?_) rfl (by kernel_rfl) (by kernel_rfl) (by kernel_rfl) (fun _ _ _ h => h) (Or.inl ⟨by rfl, ?_⟩) (by assumption) ?_
        rotate_left
        · (intro w hSw; (try dsimp only at hSw); (try go_simp); (try with_reducible rfl))
        (try simp only [Act.put, List.getElem_toArray, List.getElem_cons_succ, List.getElem_cons_zero, List.setIfInBounds_toArray, List.set_cons_zero, List.set_cons_succ])
        refine wpAnyH_take (i := 32) (oi := _) (v := ?_) rfl (by kernel_rfl) (by kernel_rfl) (by kernel_rfl) (fun _ _ _ h => h) (Or.inl ⟨by rfl, ?_⟩) (by assumption) ?_
        rotate_left
        · (intro w hSw; (try dsimp only at hSw); (try go_simp); (try with_reducible rfl))
        (try simp only [Act.put, List.getElem_toArray, List.getElem_cons_succ, List.getElem_cons_zero, List.setIfInBounds_toArray, List.set_cons_zero, List.set_cons_succ])
        refine wpAnyH_take (i := 34) (oi := _) (v := ?_) rfl (by kernel_rfl) (by kernel_rfl) (by kernel_rfl) (fun _ _ _ h => h) (Or.inl ⟨by rfl, ?_⟩) (by assumption) ?_
        rotate_left
        · (intro w hSw; (try dsimp only at hSw); (try go_simp); (try with_reducible rfl))
        (try simp only [Act.put, List.getElem_toArray, List.getElem_cons_succ, List.getElem_cons_zero, List.setIfInBounds_toArray, List.set_cons_zero, List.set_cons_succ])
        refine wpAnyH_ready (rs := [33]) (by kernel_rfl) (by simp) ?_
        refine AllReadyH.cons (o := _) rfl (fun K hK => ?_) ?_
        · go_simp
          (with_reducible refine (HMK2.out _).mono ?_); rintro e y3 ⟨vk, rfl, hvk, hy⟩; have hE := hE.trans hy
          refine hK.out _ _ ?_ (fun hHeld2 => ?_)
          · (first | exact ⟨cell_ext hy hHeld.1, cell_ext hy hHeld.2.1, cell_ext hy hHeld.2.2.1, cell_ext hy hHeld.2.2.2.1, cell_ext hy hHeld.2.2.2.2.1, cell_ext hy hHeld.2.2.2.2.2⟩ | exact ⟨ca0, ca1, cb0, cb1, cx0, cx1⟩ | exact hHeld)
          clear hK K hHeld
          have hHeld := hHeld2
          clear hHeld2
          (try simp only [Act.put, List.getElem_toArray, List.getElem_cons_succ, List.getElem_cons_zero, List.setIfInBounds_toArray, List.set_cons_zero, List.set_cons_succ])
          refine wpAnyH_ready (rs := [35]) (by kernel_rfl) (by simp) ?_
          refine AllReadyH.cons (o := _) rfl (fun K hK => ?_) ?_
          · go_simp
            (with_reducible refine (sameT hvk.val (Va.out.ext hE) HFE.out).mono ?_); rintro e y4 ⟨rfl, hy⟩; have hE := hE.trans hy
            refine hK.out _ _ ?_ (fun hHeld2 => ?_)
            · (first | exact ⟨cell_ext hy hHeld.1, cell_ext hy hHeld.2.1, cell_ext hy hHeld.2.2.1, cell_ext hy hHeld.2.2.2.1, cell_ext hy hHeld.2.2.2.2.1, cell_ext hy hHeld.2.2.2.2.2⟩ | exact ⟨ca0, ca1, cb0, cb1, cx0, cx1⟩ | exact hHeld)
            clear hK K hHeld
            have hHeld := hHeld2
            clear hHeld2
            (try simp only [Act.put, List.getElem_toArray, List.getElem_cons_succ, List.getElem_cons_zero, List.setIfInBounds_toArray, List.set_cons_zero, List.set_cons_succ])
            refine wpAnyH_take (i := 36) (oi := _) (v := ?_) rfl (by kernel_rfl) (by kernel_rfl) (by kernel_rfl) (fun _ _ _ h => h) (Or.inl ⟨by rfl, ?_⟩) (by assumption) ?_
            rotate_left
            · (intro w hSw; (try dsimp only at hSw); (try go_simp); (try with_reducible rfl))
            (try simp only [Act.put, List.getElem_toArray, List.getElem_cons_succ, List.getElem_cons_zero, List.setIfInBounds_toArray, List.set_cons_zero, List.set_cons_succ])
            refine wpAnyH_take (i := 37) (oi := _) (v := ?_) rfl (by kernel_rfl) (by kernel_rfl) (by kernel_rfl) (fun _ _ _ h => h) (Or.inl ⟨by rfl, ?_⟩) (by assumption) ?_
            rotate_left
            · (intro w hSw; (try dsimp only at hSw); (try go_simp); (try with_reducible rfl))
            (try simp only [Act.put, List.getElem_toArray, List.getElem_cons_succ, List.getElem_cons_zero, List.setIfInBounds_toArray, List.set_cons_zero, List.set_cons_succ])
            refine wpAnyH_take (i := 38) (oi := _) (v := ?_) rfl (by kernel_rfl) (by kernel_rfl) (by kernel_rfl) (fun _ _ _ h => h) (Or.inl ⟨by rfl, ?_⟩) (by assumption) ?_
            rotate_left
            · (intro w hSw; (try dsimp only at hSw); (try go_simp); (try with_reducible rfl))
            (try simp only [Act.put, List.getElem_toArray, List.getElem_cons_succ, List.getElem_cons_zero, List.setIfInBounds_toArray, List.set_cons_zero, List.set_cons_succ])
            refine wpAnyH_done (by kernel_rfl) ?_ _
            (go_wp2_with fail; go_ret; exact ⟨rfl, hx.trans hE⟩)
          exact AllReadyH.nil
        exact AllReadyH.nil
      exact AllReadyH.nil
    exact AllReadyH.nil
theorem law_Back (na nb : Bool) (aa ab : Option Addr) (ca cb : Nat) (l m : List Int) (n : Int) (s : ByteArray) (w : World) (ha : Ints w aa ca l) (hb : Ints w ab cb m) (hn : -9223372036854775808 ≤ n ∧ n ≤ 9223372036854775807) :
    Calls Tryd.prog 5 #[.agg #[.bool na, .slice aa l.length ca], .agg #[.bool nb, .slice ab m.length cb], .int .i64 n, .string s] w fun e w' => e = .returned (.bool true) ∧ Ext w w' := by
  by_cases hv : okA ⟨na, aa, ca, l⟩ = true ∧ okA ⟨nb, ab, cb, m⟩ = true
  · by_cases h : 200 < s.size
    · exact law_BackA1 na nb aa ab _ _ ca cb l m n s w ha hb rfl rfl hn h hv
    · cases hr : readL s.data.toList with
      | none => exact law_BackB1 na nb aa ab _ _ ca cb l m n s w ha hb rfl rfl hn ⟨by omega, hr⟩ hv
      | some z => exact law_BackC1 na nb aa ab _ _ ca cb l m n s w ha hb rfl rfl hn ⟨by omega, z, hr⟩ hv
  · have hv2 : okA ⟨na, aa, ca, l⟩ = false ∨ okA ⟨nb, ab, cb, m⟩ = false := by
      cases h1 : okA ⟨na, aa, ca, l⟩
      · exact .inl rfl
      · cases h2 : okA ⟨nb, ab, cb, m⟩
        · exact .inr rfl
        · exact absurd ⟨h1, h2⟩ hv
    by_cases h : 200 < s.size
    · exact law_BackA0 na nb aa ab _ _ ca cb l m n s w ha hb rfl rfl hn h hv2
    · cases hr : readL s.data.toList with
      | none => exact law_BackB0 na nb aa ab _ _ ca cb l m n s w ha hb rfl rfl hn ⟨by omega, hr⟩ hv2
      | some z => exact law_BackC0 na nb aa ab _ _ ca cb l m n s w ha hb rfl rfl hn ⟨by omega, z, hr⟩ hv2
end Go.Proofs.YtpaaanbcadlhiaaDoor
