import Derived.Test.YtpaaanbcadlhiaaDoorPLGcd0
import Derived.Test.YtpaaanbcadlhiaaDoorPLaw1
import Derived.Deep.DeepCutAuto
namespace Go.Proofs.YtpaaanbcadlhiaaDoor
open Go.RowKit Go BigFrame
set_option maxRecDepth 100000
set_option linter.unusedSimpArgs false
set_option linter.unusedVariables false

theorem bigRow3 {W : World} {g : Nat} {n1 n2 n3 : Bool} {a1 a2 a3 : Option Addr} {c1 c2 c3 : Nat} {l1 l2 l3 : List Int} {t : TypeId} (h : Blk W g #[.bool n1, .slice a1 l1.length c1, .bool n2, .slice a2 l2.length c2, .bool n3, .slice a3 l3.length c3] t) (h1 : Ints W a1 c1 l1) (h2 : Ints W a2 c2 l2) (h3 : Ints W a3 c3 l3) :
    BigRow W g [⟨n1, a1, c1, l1⟩, ⟨n2, a2, c2, l2⟩, ⟨n3, a3, c3, l3⟩] where
  c0 := fun i hi => by
    match i, hi with
    | 0, _ => exact h.cell rfl
    | 1, _ => exact h.cell rfl
    | 2, _ => exact h.cell rfl
  c1 := fun i hi => by
    match i, hi with
    | 0, _ => exact h.cell rfl
    | 1, _ => exact h.cell rfl
    | 2, _ => exact h.cell rfl
  i := fun i hi => by
    match i, hi with
    | 0, _ => exact h1
    | 1, _ => exact h2
    | 2, _ => exact h3
theorem okA_z {x : BigA} (h : okA x = true) : Big x.n x.l (sgn x.n (dval x.l)) ∧ (digs (sgn x.n (dval x.l)).natAbs).length ≤ 12 := by
  unfold okA at h
  obtain ⟨h1, h2⟩ := (Bool.and_eq_true _ _).mp h
  have hb := (of_chk h2).1
  refine ⟨hb, ?_⟩
  rw [← hb.digs]
  simpa using h1

set_option maxHeartbeats 4000000 in
theorem law_Gcd0 (na nb nd : Bool) (aa ab ad : Option Addr) (qa qb qd ca cb cd : Nat) (la_ lb_ ld_ : List Int) (w : World) (ha : Ints w aa ca la_) (hb : Ints w ab cb lb_) (hd : Ints w ad cd ld_) (la : la_.length = qa) (lb : lb_.length = qb) (ld : ld_.length = qd) (hv : (([⟨na, aa, ca, la_⟩, ⟨nb, ab, cb, lb_⟩, ⟨nd, ad, cd, ld_⟩] : List BigA)).any (fun x => !okA x) = true) :
    Calls Tryd.prog 7 #[.agg #[.bool na, .slice aa qa ca], .agg #[.bool nb, .slice ab qb cb], .agg #[.bool nd, .slice ad qd cd]] w fun e w' => e = .returned (.bool true) ∧ Ext w w' := by
  have HIa := Lib.hid ha
  have HIb := Lib.hid hb
  have HId := Lib.hid hd
  have HLa := Lib.hid la
  have HLb := Lib.hid lb
  have HLd := Lib.hid ld
  have HV := Lib.hid hv
  clear la lb ld ha hb hd hv
  have hx : Ext w ((((w).alloc (.cells #[.bool na, .slice aa qa ca] 24)).alloc (.cells #[.bool nb, .slice ab qb cb] 24)).alloc (.cells #[.bool nd, .slice ad qd cd] 24)) := (by repeat (first | with_reducible exact Ext.refl _ | with_reducible assumption | with_reducible refine Ext.drewN ?_ _ | with_reducible refine Ext.drew ?_ | with_reducible refine Ext.alloc' ?_ _ | with_reducible refine Ext.set ?_ (by dsimp only; omega) _))
  have Ka : Blk ((((w).alloc (.cells #[.bool na, .slice aa qa ca] 24)).alloc (.cells #[.bool nb, .slice ab qb cb] 24)).alloc (.cells #[.bool nd, .slice ad qd cd] 24)) (w.heap.size) #[.bool na, .slice aa qa ca] 24 := by have h := ((Blk.new0 (w) #[.bool na, .slice aa qa ca] 24).alloc (.cells #[.bool nb, .slice ab qb cb] 24)).alloc (.cells #[.bool nd, .slice ad qd cd] 24); simpa [Nat.add_assoc] using h
  have Ka := Lib.hid Ka
  have Kb : Blk ((((w).alloc (.cells #[.bool na, .slice aa qa ca] 24)).alloc (.cells #[.bool nb, .slice ab qb cb] 24)).alloc (.cells #[.bool nd, .slice ad qd cd] 24)) (w.heap.size + 1) #[.bool nb, .slice ab qb cb] 24 := by have h := (Blk.new0 ((w).alloc (.cells #[.bool na, .slice aa qa ca] 24)) #[.bool nb, .slice ab qb cb] 24).alloc (.cells #[.bool nd, .slice ad qd cd] 24); simpa [Nat.add_assoc] using h
  have Kb := Lib.hid Kb
  have Kd : Blk ((((w).alloc (.cells #[.bool na, .slice aa qa ca] 24)).alloc (.cells #[.bool nb, .slice ab qb cb] 24)).alloc (.cells #[.bool nd, .slice ad qd cd] 24)) (w.heap.size + 2) #[.bool nd, .slice ad qd cd] 24 := by have h := Blk.new0 (((w).alloc (.cells #[.bool na, .slice aa qa ca] 24)).alloc (.cells #[.bool nb, .slice ab qb cb] 24)) #[.bool nd, .slice ad qd cd] 24; simpa [Nat.add_assoc] using h
  have Kd := Lib.hid Kd
  go_enter Tryd.func7, Tryd.ntmps7
  go_upto_region 1 with fail
  try simp only [Nat.add_assoc, Nat.reduceAdd, Nat.add_zero]
  generalize (((w).alloc (.cells #[.bool na, .slice aa qa ca] 24)).alloc (.cells #[.bool nb, .slice ab qb cb] 24)).alloc (.cells #[.bool nd, .slice ad qd cd] 24) = x1 at *
  go_wp2_with fail
  with_reducible refine (law09Sane _).mono ?_
  rintro e x2 ⟨rfl, hy⟩
  have hx := hx.trans hy
  have Ka := Lib.hid (Ka.out.ext hy)
  have Kb := Lib.hid (Kb.out.ext hy)
  have Kd := Lib.hid (Kd.out.ext hy)
  clear hy
  have ca0 := Ka.out.cell (i := 0) (v := .bool na) rfl
  have ca1 := Ka.out.cell (i := 1) (v := .slice aa qa ca) rfl
  have cb0 := Kb.out.cell (i := 0) (v := .bool nb) rfl
  have cb1 := Kb.out.cell (i := 1) (v := .slice ab qb cb) rfl
  have cd0 := Kd.out.cell (i := 0) (v := .bool nd) rfl
  have cd1 := Kd.out.cell (i := 1) (v := .slice ad qd cd) rfl
  have hl := Ext.alloc x2 (.cells #[.bool na, .slice aa qa ca, .bool nb, .slice ab qb cb, .bool nd, .slice ad qd cd] 24)
  have hrow : BigRow (x2.alloc (.cells #[.bool na, .slice aa qa ca, .bool nb, .slice ab qb cb, .bool nd, .slice ad qd cd] 24)) x2.heap.size [⟨na, aa, ca, la_⟩, ⟨nb, ab, cb, lb_⟩, ⟨nd, ad, cd, ld_⟩] := by
    have hB := Blk.new0 x2 #[.bool na, .slice aa qa ca, .bool nb, .slice ab qb cb, .bool nd, .slice ad qd cd] 24
    have hxl := hx.trans hl
    rw [← HLa.out, ← HLb.out, ← HLd.out] at hB hxl ⊢
    exact bigRow3 hB (HIa.out.ext hxl) (HIb.out.ext hxl) (HId.out.ext hxl)
  have HROW := Lib.hid hrow
  clear hrow
  have HVAL := Lib.hid (law_valid_no _ _ _ HROW.out (by simp) HV.out)
  simp only [List.length_cons, List.length_nil, Nat.zero_add, Nat.reduceAdd] at HVAL
  go_wp2_with fail
  with_reducible refine (HVAL.out).mono ?_
  rintro e x3 ⟨rfl, hy⟩
  have hx := hx.trans (hl.trans hy)
  have Ka := Lib.hid (Ka.out.ext (hl.trans hy))
  have Kb := Lib.hid (Kb.out.ext (hl.trans hy))
  have Kd := Lib.hid (Kd.out.ext (hl.trans hy))
  clear hl hy HROW HVAL
  clear ca0 ca1 cb0 cb1 cd0 cd1
  go_wp2_with fail
  go_ret
  exact ⟨rfl, hx⟩
set_option maxHeartbeats 4000000 in
theorem law_Gcd1 (na nb nd : Bool) (aa ab ad : Option Addr) (qa qb qd ca cb cd : Nat) (la_ lb_ ld_ : List Int) (w : World) (ha : Ints w aa ca la_) (hb : Ints w ab cb lb_) (hd : Ints w ad cd ld_) (la : la_.length = qa) (lb : lb_.length = qb) (ld : ld_.length = qd) (hv : ∀ x ∈ ([⟨na, aa, ca, la_⟩, ⟨nb, ab, cb, lb_⟩, ⟨nd, ad, cd, ld_⟩] : List BigA), okA x = true) (hc : ¬ (sgn nd (dval ld_) ∣ sgn na (dval la_))) :
    Calls Tryd.prog 7 #[.agg #[.bool na, .slice aa qa ca], .agg #[.bool nb, .slice ab qb cb], .agg #[.bool nd, .slice ad qd cd]] w fun e w' => e = .returned (.bool true) ∧ Ext w w' := by
  have HC := Lib.hid hc
  clear hc
  have HIa := Lib.hid ha
  have HIb := Lib.hid hb
  have HId := Lib.hid hd
  have HLa := Lib.hid la
  have HLb := Lib.hid lb
  have HLd := Lib.hid ld
  have HV := Lib.hid hv
  clear la lb ld ha hb hd hv
  have hx : Ext w ((((w).alloc (.cells #[.bool na, .slice aa qa ca] 24)).alloc (.cells #[.bool nb, .slice ab qb cb] 24)).alloc (.cells #[.bool nd, .slice ad qd cd] 24)) := (by repeat (first | with_reducible exact Ext.refl _ | with_reducible assumption | with_reducible refine Ext.drewN ?_ _ | with_reducible refine Ext.drew ?_ | with_reducible refine Ext.alloc' ?_ _ | with_reducible refine Ext.set ?_ (by dsimp only; omega) _))
  have Ka : Blk ((((w).alloc (.cells #[.bool na, .slice aa qa ca] 24)).alloc (.cells #[.bool nb, .slice ab qb cb] 24)).alloc (.cells #[.bool nd, .slice ad qd cd] 24)) (w.heap.size) #[.bool na, .slice aa qa ca] 24 := by have h := ((Blk.new0 (w) #[.bool na, .slice aa qa ca] 24).alloc (.cells #[.bool nb, .slice ab qb cb] 24)).alloc (.cells #[.bool nd, .slice ad qd cd] 24); simpa [Nat.add_assoc] using h
  have Ka := Lib.hid Ka
  have Kb : Blk ((((w).alloc (.cells #[.bool na, .slice aa qa ca] 24)).alloc (.cells #[.bool nb, .slice ab qb cb] 24)).alloc (.cells #[.bool nd, .slice ad qd cd] 24)) (w.heap.size + 1) #[.bool nb, .slice ab qb cb] 24 := by have h := (Blk.new0 ((w).alloc (.cells #[.bool na, .slice aa qa ca] 24)) #[.bool nb, .slice ab qb cb] 24).alloc (.cells #[.bool nd, .slice ad qd cd] 24); simpa [Nat.add_assoc] using h
  have Kb := Lib.hid Kb
  have Kd : Blk ((((w).alloc (.cells #[.bool na, .slice aa qa ca] 24)).alloc (.cells #[.bool nb, .slice ab qb cb] 24)).alloc (.cells #[.bool nd, .slice ad qd cd] 24)) (w.heap.size + 2) #[.bool nd, .slice ad qd cd] 24 := by have h := Blk.new0 (((w).alloc (.cells #[.bool na, .slice aa qa ca] 24)).alloc (.cells #[.bool nb, .slice ab qb cb] 24)) #[.bool nd, .slice ad qd cd] 24; simpa [Nat.add_assoc] using h
  have Kd := Lib.hid Kd
  go_enter Tryd.func7, Tryd.ntmps7
  go_upto_region 1 with fail
  try simp only [Nat.add_assoc, Nat.reduceAdd, Nat.add_zero]
  generalize (((w).alloc (.cells #[.bool na, .slice aa qa ca] 24)).alloc (.cells #[.bool nb, .slice ab qb cb] 24)).alloc (.cells #[.bool nd, .slice ad qd cd] 24) = x4 at *
  go_wp2_with fail
  with_reducible refine (law09Sane _).mono ?_
  rintro e x5 ⟨rfl, hy⟩
  have hx := hx.trans hy
  have Ka := Lib.hid (Ka.out.ext hy)
  have Kb := Lib.hid (Kb.out.ext hy)
  have Kd := Lib.hid (Kd.out.ext hy)
  clear hy
  have ca0 := Ka.out.cell (i := 0) (v := .bool na) rfl
  have ca1 := Ka.out.cell (i := 1) (v := .slice aa qa ca) rfl
  have cb0 := Kb.out.cell (i := 0) (v := .bool nb) rfl
  have cb1 := Kb.out.cell (i := 1) (v := .slice ab qb cb) rfl
  have cd0 := Kd.out.cell (i := 0) (v := .bool nd) rfl
  have cd1 := Kd.out.cell (i := 1) (v := .slice ad qd cd) rfl
  have hl := Ext.alloc x5 (.cells #[.bool na, .slice aa qa ca, .bool nb, .slice ab qb cb, .bool nd, .slice ad qd cd] 24)
  have hrow : BigRow (x5.alloc (.cells #[.bool na, .slice aa qa ca, .bool nb, .slice ab qb cb, .bool nd, .slice ad qd cd] 24)) x5.heap.size [⟨na, aa, ca, la_⟩, ⟨nb, ab, cb, lb_⟩, ⟨nd, ad, cd, ld_⟩] := by
    have hB := Blk.new0 x5 #[.bool na, .slice aa qa ca, .bool nb, .slice ab qb cb, .bool nd, .slice ad qd cd] 24
    have hxl := hx.trans hl
    rw [← HLa.out, ← HLb.out, ← HLd.out] at hB hxl ⊢
    exact bigRow3 hB (HIa.out.ext hxl) (HIb.out.ext hxl) (HId.out.ext hxl)
  have HROW := Lib.hid hrow
  clear hrow
  have HVAL := Lib.hid (law_valid_yes _ _ _ HROW.out (by simp) HV.out)
  simp only [List.length_cons, List.length_nil, Nat.zero_add, Nat.reduceAdd] at HVAL
  go_wp2_with fail
  with_reducible refine (HVAL.out).mono ?_
  rintro e x6 ⟨rfl, hy⟩
  have hx := hx.trans (hl.trans hy)
  have Ka := Lib.hid (Ka.out.ext (hl.trans hy))
  have Kb := Lib.hid (Kb.out.ext (hl.trans hy))
  have Kd := Lib.hid (Kd.out.ext (hl.trans hy))
  clear hl hy HROW HVAL
  clear ca0 ca1 cb0 cb1 cd0 cd1
  go_upto_region 6 with fail
  obtain ⟨hBa, hDa⟩ := okA_z (HV.out _ (show (⟨na, aa, ca, la_⟩ : BigA) ∈ ([⟨na, aa, ca, la_⟩, ⟨nb, ab, cb, lb_⟩, ⟨nd, ad, cd, ld_⟩] : List BigA) from by simp))
  obtain ⟨za, hza⟩ : ∃ z, sgn na (dval la_) = z := ⟨_, rfl⟩
  have Va : Hid (BigV w (.agg #[.bool na, .slice aa qa ca]) za) := Lib.hid ⟨na, la_, ⟨aa, ca, by rw [HLa.out], HIa.out⟩, by rw [← hza]; exact hBa⟩
  have Va := Lib.hid (Va.out.ext hx)
  have Da : Hid (za.natAbs < 1073741824 ^ 12) := Lib.hid (abs_lt (by rw [← hza]; exact hDa))
  have La : Hid (Len za) := Lib.hid (len_lt Da.out (by omega))
  obtain ⟨hBb, hDb⟩ := okA_z (HV.out _ (show (⟨nb, ab, cb, lb_⟩ : BigA) ∈ ([⟨na, aa, ca, la_⟩, ⟨nb, ab, cb, lb_⟩, ⟨nd, ad, cd, ld_⟩] : List BigA) from by simp))
  obtain ⟨zb, hzb⟩ : ∃ z, sgn nb (dval lb_) = z := ⟨_, rfl⟩
  have Vb : Hid (BigV w (.agg #[.bool nb, .slice ab qb cb]) zb) := Lib.hid ⟨nb, lb_, ⟨ab, cb, by rw [HLb.out], HIb.out⟩, by rw [← hzb]; exact hBb⟩
  have Vb := Lib.hid (Vb.out.ext hx)
  have Db : Hid (zb.natAbs < 1073741824 ^ 12) := Lib.hid (abs_lt (by rw [← hzb]; exact hDb))
  have Lb : Hid (Len zb) := Lib.hid (len_lt Db.out (by omega))
  obtain ⟨hBd, hDd⟩ := okA_z (HV.out _ (show (⟨nd, ad, cd, ld_⟩ : BigA) ∈ ([⟨na, aa, ca, la_⟩, ⟨nb, ab, cb, lb_⟩, ⟨nd, ad, cd, ld_⟩] : List BigA) from by simp))
  obtain ⟨zd, hzd⟩ : ∃ z, sgn nd (dval ld_) = z := ⟨_, rfl⟩
  have Vd : Hid (BigV w (.agg #[.bool nd, .slice ad qd cd]) zd) := Lib.hid ⟨nd, ld_, ⟨ad, cd, by rw [HLd.out], HId.out⟩, by rw [← hzd]; exact hBd⟩
  have Vd := Lib.hid (Vd.out.ext hx)
  have Dd : Hid (zd.natAbs < 1073741824 ^ 12) := Lib.hid (abs_lt (by rw [← hzd]; exact hDd))
  have Ld : Hid (Len zd) := Lib.hid (len_lt Dd.out (by omega))
  have HC : Hid (¬ (zd ∣ za)) := Lib.hid (by simp only [← hza, ← hzb, ← hzd]; exact HC.out)
  clear hBa hDa hza hBb hDb hzb hBd hDd hzd
  have hl := Ext.alloc x6 (.cells #[.bool false] 49)
  have hx := hx.trans hl
  have Ka := Lib.hid (Ka.out.ext hl)
  have Kb := Lib.hid (Kb.out.ext hl)
  have Kd := Lib.hid (Kd.out.ext hl)
  have Va := Lib.hid (Va.out.ext hl)
  have Vb := Lib.hid (Vb.out.ext hl)
  have Vd := Lib.hid (Vd.out.ext hl)
  have KC := Lib.hid (Blk.new0 x6 #[.bool false] 49)
  clear hl
  generalize x6.alloc (.cells #[.bool false] 49) = x7 at *
  generalize x6.heap.size = pc at *
  have ca0 := Ka.out.cell (i := 0) (v := .bool na) rfl
  have ca1 := Ka.out.cell (i := 1) (v := .slice aa qa ca) rfl
  have cb0 := Kb.out.cell (i := 0) (v := .bool nb) rfl
  have cb1 := Kb.out.cell (i := 1) (v := .slice ab qb cb) rfl
  go_wp2_with fail
  with_reducible refine (gcd_any Va.out Vb.out La.out Lb.out).mono ?_
  rintro e x8 ⟨v, rfl, hv, hy⟩
  have hx := hx.trans hy
  have Ka := Lib.hid (Ka.out.ext hy)
  have Kb := Lib.hid (Kb.out.ext hy)
  have Kd := Lib.hid (Kd.out.ext hy)
  have Va := Lib.hid (Va.out.ext hy)
  have Vb := Lib.hid (Vb.out.ext hy)
  have Vd := Lib.hid (Vd.out.ext hy)
  have KC := Lib.hid (KC.out.ext hy)
  clear hy
  obtain ⟨ng, ag, qg, cg, rfl⟩ := hv.form
  have Vg := Lib.hid hv
  clear hv
  have Dg := Lib.hid (gcd_lt Da.out Db.out)
  have Lg := Lib.hid (len_lt Dg.out (by omega))
  clear ca0 ca1 cb0 cb1
  go_wp2_with fail
  with_reducible refine (of_val pc KC.out Vg.out Lg.out).mono ?_
  rintro e x9 ⟨rfl, hy⟩
  have hx := hx.trans hy
  have Ka := Lib.hid (Ka.out.ext hy)
  have Kb := Lib.hid (Kb.out.ext hy)
  have Kd := Lib.hid (Kd.out.ext hy)
  have Va := Lib.hid (Va.out.ext hy)
  have Vb := Lib.hid (Vb.out.ext hy)
  have Vd := Lib.hid (Vd.out.ext hy)
  have KC := Lib.hid (KC.out.ext hy)
  have Vg := Lib.hid (Vg.out.ext hy)
  clear hy
  have hng : ng = false := Vg.out.pos (by omega)
  subst hng
  go_upto_region 8 with fail
  have hl := Ext.alloc x9 (.cells #[.bool false, .slice ag qg cg] 24)
  have hx := hx.trans hl
  have Ka := Lib.hid (Ka.out.ext hl)
  have Kb := Lib.hid (Kb.out.ext hl)
  have Kd := Lib.hid (Kd.out.ext hl)
  have Va := Lib.hid (Va.out.ext hl)
  have Vb := Lib.hid (Vb.out.ext hl)
  have Vd := Lib.hid (Vd.out.ext hl)
  have KC := Lib.hid (KC.out.ext hl)
  have Vg := Lib.hid (Vg.out.ext hl)
  have Kg := Lib.hid (Blk.new0 x9 #[.bool false, .slice ag qg cg] 24)
  clear hl
  generalize x9.alloc (.cells #[.bool false, .slice ag qg cg] 24) = x10 at *
  generalize x9.heap.size = pg at *
  have HG1 := Lib.hid (show dvdB ((Int.gcd za zb : Nat) : Int) za = true from decide_eq_true (Int.gcd_dvd_left za zb))
  have HG2 := Lib.hid (show dvdB ((Int.gcd za zb : Nat) : Int) zb = true from decide_eq_true (Int.gcd_dvd_right za zb))
  have HG3 := Lib.hid (show ((Int.gcd za zb : Nat) : Int) = ((Int.gcd zb (0 - za) : Nat) : Int) from by rw [Int.zero_sub, Int.gcd_neg, Int.gcd_comm])
  have DN := Lib.hid (show (0 - za).natAbs < 1073741824 ^ 12 from by have := Da.out; rw [Int.zero_sub, Int.natAbs_neg]; exact this)
  have LN := Lib.hid (len_lt DN.out (by omega))
  have LG2 := Lib.hid (len_lt (gcd_lt Db.out DN.out) (by omega))
  have L0 := Lib.hid (len_small (z := 0) (by decide))
  go_cut [53] (fun s53 wx => s53 = .bool false ∧ Ext x10 wx)
  case first =>
    have dc0 : x10.cell? ⟨w.heap.size, 0, none⟩ = some (.bool na) := Ka.out.cell (i := 0) rfl
    have dc1 : x10.cell? ⟨w.heap.size, 1, none⟩ = some (.slice aa qa ca) := Ka.out.cell (i := 1) rfl
    have dc2 : x10.cell? ⟨w.heap.size + 1, 0, none⟩ = some (.bool nb) := Kb.out.cell (i := 0) rfl
    have dc3 : x10.cell? ⟨w.heap.size + 1, 1, none⟩ = some (.slice ab qb cb) := Kb.out.cell (i := 1) rfl
    have dc4 : x10.cell? ⟨pg, 0, none⟩ = some (.bool false) := Kg.out.cell (i := 0) rfl
    have dc5 : x10.cell? ⟨pg, 1, none⟩ = some (.slice ag qg cg) := Kg.out.cell (i := 1) rfl
    have hE : Ext x10 x10.drew := (Ext.refl _).drew
    refine wp_region_held_drew (S := (fun w' => w'.cell? ⟨w.heap.size, 0, none⟩ = some (.bool na) ∧ w'.cell? ⟨w.heap.size, 1, none⟩ = some (.slice aa qa ca) ∧ w'.cell? ⟨w.heap.size + 1, 0, none⟩ = some (.bool nb) ∧ w'.cell? ⟨w.heap.size + 1, 1, none⟩ = some (.slice ab qb cb) ∧ w'.cell? ⟨pg, 0, none⟩ = some (.bool false) ∧ w'.cell? ⟨pg, 1, none⟩ = some (.slice ag qg cg))) (by kernel_rfl) ?_ (fun hHeld => ?_)
    · (first | exact ⟨cell_ext hy hHeld.1, cell_ext hy hHeld.2.1, cell_ext hy hHeld.2.2.1, cell_ext hy hHeld.2.2.2.1, cell_ext hy hHeld.2.2.2.2.1, cell_ext hy hHeld.2.2.2.2.2⟩ | exact ⟨dc0, dc1, dc2, dc3, dc4, dc5⟩ | exact hHeld)
    refine wpAnyH_take (i := 0) (oi := _) (v := ?_) rfl (by kernel_rfl) (by kernel_rfl) (by kernel_rfl) (fun _ _ _ h => h) (Or.inl ⟨by rfl, ?_⟩) (by assumption) ?_
    rotate_left
    · (intro w hSw; (try dsimp only at hSw); (try go_simp); (try with_reducible rfl))
    (try simp only [Act.put, List.getElem_toArray, List.getElem_cons_succ, List.getElem_cons_zero, List.setIfInBounds_toArray, List.set_cons_zero, List.set_cons_succ])
    refine wpAnyH_take (i := 1) (oi := _) (v := ?_) rfl (by kernel_rfl) (by kernel_rfl) (by kernel_rfl) (fun _ _ _ h => h) (Or.inl ⟨by rfl, ?_⟩) (by assumption) ?_
    rotate_left
    · (intro w hSw; (try dsimp only at hSw); (try go_simp); (try with_reducible rfl))
    (try simp only [Act.put, List.getElem_toArray, List.getElem_cons_succ, List.getElem_cons_zero, List.setIfInBounds_toArray, List.set_cons_zero, List.set_cons_succ])
    refine wpAnyH_take (i := 2) (oi := _) (v := ?_) rfl (by kernel_rfl) (by kernel_rfl) (by kernel_rfl) (fun _ _ _ h => h) (Or.inl ⟨by rfl, ?_⟩) (by assumption) ?_
    rotate_left
    · (intro w hSw; (try dsimp only at hSw); (try go_simp); (try with_reducible rfl))
    (try simp only [Act.put, List.getElem_toArray, List.getElem_cons_succ, List.getElem_cons_zero, List.setIfInBounds_toArray, List.set_cons_zero, List.set_cons_succ])
    refine wpAnyH_take (i := 3) (oi := _) (v := ?_) rfl (by kernel_rfl) (by kernel_rfl) (by kernel_rfl) (fun _ _ _ h => h) (Or.inl ⟨by rfl, ?_⟩) (by assumption) ?_
    rotate_left
    · (intro w hSw; (try dsimp only at hSw); (try go_simp); (try with_reducible rfl))
    (try simp only [Act.put, List.getElem_toArray, List.getElem_cons_succ, List.getElem_cons_zero, List.setIfInBounds_toArray, List.set_cons_zero, List.set_cons_succ])
    refine wpAnyH_take (i := 4) (oi := _) (v := ?_) rfl (by kernel_rfl) (by kernel_rfl) (by kernel_rfl) (fun _ _ _ h => h) (Or.inl ⟨by rfl, ?_⟩) (by assumption) ?_
    rotate_left
    · (intro w hSw; (try dsimp only at hSw); (try go_simp); (try with_reducible rfl))
    (try simp only [Act.put, List.getElem_toArray, List.getElem_cons_succ, List.getElem_cons_zero, List.setIfInBounds_toArray, List.set_cons_zero, List.set_cons_succ])
    refine wpAnyH_take (i := 5) (oi := _) (v := ?_) rfl (by kernel_rfl) (by kernel_rfl) (by kernel_rfl) (fun _ _ _ h => h) (Or.inl ⟨by rfl, ?_⟩) (by assumption) ?_
    rotate_left
    · (intro w hSw; (try dsimp only at hSw); (try go_simp); (try with_reducible rfl))
    (try simp only [Act.put, List.getElem_toArray, List.getElem_cons_succ, List.getElem_cons_zero, List.setIfInBounds_toArray, List.set_cons_zero, List.set_cons_succ])
    refine wpAnyH_ready (rs := [6]) (by kernel_rfl) (by simp) ?_
    refine AllReadyH.cons (o := _) rfl (fun K hK => ?_) ?_
    · go_simp
      (with_reducible refine (law_divides (Vg.out.ext hE) (Va.out.ext hE) Lg.out La.out).mono ?_); rintro e y1 ⟨rfl, hy⟩; rw [HG1.out]; have hE := hE.trans hy
      refine hK.out _ _ ?_ (fun hHeld2 => ?_)
      · (first | exact ⟨cell_ext hy hHeld.1, cell_ext hy hHeld.2.1, cell_ext hy hHeld.2.2.1, cell_ext hy hHeld.2.2.2.1, cell_ext hy hHeld.2.2.2.2.1, cell_ext hy hHeld.2.2.2.2.2⟩ | exact ⟨dc0, dc1, dc2, dc3, dc4, dc5⟩ | exact hHeld)
      clear hK K hHeld
      have hHeld := hHeld2
      clear hHeld2
      (try simp only [Act.put, List.getElem_toArray, List.getElem_cons_succ, List.getElem_cons_zero, List.setIfInBounds_toArray, List.set_cons_zero, List.set_cons_succ])
      refine wpAnyH_take (i := 7) (oi := _) (v := ?_) rfl (by kernel_rfl) (by kernel_rfl) (by kernel_rfl) (fun _ _ _ h => h) (Or.inl ⟨by rfl, ?_⟩) (by assumption) ?_
      rotate_left
      · (intro w hSw; (try dsimp only at hSw); (try go_simp); (try with_reducible rfl))
      (try simp only [Act.put, List.getElem_toArray, List.getElem_cons_succ, List.getElem_cons_zero, List.setIfInBounds_toArray, List.set_cons_zero, List.set_cons_succ])
      refine wpAnyH_take (i := 8) (oi := _) (v := ?_) rfl (by kernel_rfl) (by kernel_rfl) (by kernel_rfl) (fun _ _ _ h => h) (Or.inl ⟨by rfl, ?_⟩) (by assumption) ?_
      rotate_left
      · (intro w hSw; (try dsimp only at hSw); (try go_simp); (try with_reducible rfl))
      (try simp only [Act.put, List.getElem_toArray, List.getElem_cons_succ, List.getElem_cons_zero, List.setIfInBounds_toArray, List.set_cons_zero, List.set_cons_succ])
      refine wpAnyH_take (i := 9) (oi := _) (v := ?_) rfl (by kernel_rfl) (by kernel_rfl) (by kernel_rfl) (fun _ _ _ h => h) (Or.inl ⟨by rfl, ?_⟩) (by assumption) ?_
      rotate_left
      · (intro w hSw; (try dsimp only at hSw); (try go_simp); (try with_reducible rfl))
      (try simp only [Act.put, List.getElem_toArray, List.getElem_cons_succ, List.getElem_cons_zero, List.setIfInBounds_toArray, List.set_cons_zero, List.set_cons_succ])
      refine wpAnyH_take (i := 10) (oi := _) (v := ?_) rfl (by kernel_rfl) (by kernel_rfl) (by kernel_rfl) (fun _ _ _ h => h) (Or.inl ⟨by rfl, ?_⟩) (by assumption) ?_
      rotate_left
      · (intro w hSw; (try dsimp only at hSw); (try go_simp); (try with_reducible rfl))
      (try simp only [Act.put, List.getElem_toArray, List.getElem_cons_succ, List.getElem_cons_zero, List.setIfInBounds_toArray, List.set_cons_zero, List.set_cons_succ])
      refine wpAnyH_take (i := 11) (oi := _) (v := ?_) rfl (by kernel_rfl) (by kernel_rfl) (by kernel_rfl) (fun _ _ _ h => h) (Or.inl ⟨by rfl, ?_⟩) (by assumption) ?_
      rotate_left
      · (intro w hSw; (try dsimp only at hSw); (try go_simp); (try with_reducible rfl))
      (try simp only [Act.put, List.getElem_toArray, List.getElem_cons_succ, List.getElem_cons_zero, List.setIfInBounds_toArray, List.set_cons_zero, List.set_cons_succ])
      refine wpAnyH_take (i := 12) (oi := _) (v := ?_) rfl (by kernel_rfl) (by kernel_rfl) (by kernel_rfl) (fun _ _ _ h => h) (Or.inl ⟨by rfl, ?_⟩) (by assumption) ?_
      rotate_left
      · (intro w hSw; (try dsimp only at hSw); (try go_simp); (try with_reducible rfl))
      (try simp only [Act.put, List.getElem_toArray, List.getElem_cons_succ, List.getElem_cons_zero, List.setIfInBounds_toArray, List.set_cons_zero, List.set_cons_succ])
      refine wpAnyH_ready (rs := [13]) (by kernel_rfl) (by simp) ?_
      refine AllReadyH.cons (o := _) rfl (fun K hK => ?_) ?_
      · go_simp
        (with_reducible refine (law_divides (Vg.out.ext hE) (Vb.out.ext hE) Lg.out Lb.out).mono ?_); rintro e y2 ⟨rfl, hy⟩; rw [HG2.out]; have hE := hE.trans hy
        refine hK.out _ _ ?_ (fun hHeld2 => ?_)
        · (first | exact ⟨cell_ext hy hHeld.1, cell_ext hy hHeld.2.1, cell_ext hy hHeld.2.2.1, cell_ext hy hHeld.2.2.2.1, cell_ext hy hHeld.2.2.2.2.1, cell_ext hy hHeld.2.2.2.2.2⟩ | exact ⟨dc0, dc1, dc2, dc3, dc4, dc5⟩ | exact hHeld)
        clear hK K hHeld
        have hHeld := hHeld2
        clear hHeld2
        (try simp only [Act.put, List.getElem_toArray, List.getElem_cons_succ, List.getElem_cons_zero, List.setIfInBounds_toArray, List.set_cons_zero, List.set_cons_succ])
        refine wpAnyH_take (i := 14) (oi := _) (v := ?_) rfl (by kernel_rfl) (by kernel_rfl) (by kernel_rfl) (fun _ _ _ h => h) (Or.inl ⟨by rfl, ?_⟩) (by assumption) ?_
        rotate_left
        · (intro w hSw; (try dsimp only at hSw); (try go_simp); (try with_reducible rfl))
        (try simp only [Act.put, List.getElem_toArray, List.getElem_cons_succ, List.getElem_cons_zero, List.setIfInBounds_toArray, List.set_cons_zero, List.set_cons_succ])
        refine wpAnyH_take (i := 15) (oi := _) (v := ?_) rfl (by kernel_rfl) (by kernel_rfl) (by kernel_rfl) (fun _ _ _ h => h) (Or.inl ⟨by rfl, ?_⟩) (by assumption) ?_
        rotate_left
        · (intro w hSw; (try dsimp only at hSw); (try go_simp); (try with_reducible rfl))
        (try simp only [Act.put, List.getElem_toArray, List.getElem_cons_succ, List.getElem_cons_zero, List.setIfInBounds_toArray, List.set_cons_zero, List.set_cons_succ])
        refine wpAnyH_take (i := 16) (oi := _) (v := ?_) rfl (by kernel_rfl) (by kernel_rfl) (by kernel_rfl) (fun _ _ _ h => h) (Or.inl ⟨by rfl, ?_⟩) (by assumption) ?_
        rotate_left
        · (intro w hSw; (try dsimp only at hSw); (try go_simp); (try with_reducible rfl))
        (try simp only [Act.put, List.getElem_toArray, List.getElem_cons_succ, List.getElem_cons_zero, List.setIfInBounds_toArray, List.set_cons_zero, List.set_cons_succ])
        refine wpAnyH_take (i := 17) (oi := _) (v := ?_) rfl (by kernel_rfl) (by kernel_rfl) (by kernel_rfl) (fun _ _ _ h => h) (Or.inl ⟨by rfl, ?_⟩) (by assumption) ?_
        rotate_left
        · (intro w hSw; (try dsimp only at hSw); (try go_simp); (try with_reducible rfl))
        (try simp only [Act.put, List.getElem_toArray, List.getElem_cons_succ, List.getElem_cons_zero, List.setIfInBounds_toArray, List.set_cons_zero, List.set_cons_succ])
        refine wpAnyH_take (i := 18) (oi := _) (v := ?_) rfl (by kernel_rfl) (by kernel_rfl) (by kernel_rfl) (fun _ _ _ h => h) (Or.inl ⟨by rfl, ?_⟩) (by assumption) ?_
        rotate_left
        · (intro w hSw; (try dsimp only at hSw); (try go_simp); (try with_reducible rfl))
        (try simp only [Act.put, List.getElem_toArray, List.getElem_cons_succ, List.getElem_cons_zero, List.setIfInBounds_toArray, List.set_cons_zero, List.set_cons_succ])
        refine wpAnyH_take (i := 19) (oi := _) (v := ?_) rfl (by kernel_rfl) (by kernel_rfl) (by kernel_rfl) (fun _ _ _ h => h) (Or.inl ⟨by rfl, ?_⟩) (by assumption) ?_
        rotate_left
        · (intro w hSw; (try dsimp only at hSw); (try go_simp); (try with_reducible rfl))
        (try simp only [Act.put, List.getElem_toArray, List.getElem_cons_succ, List.getElem_cons_zero, List.setIfInBounds_toArray, List.set_cons_zero, List.set_cons_succ])
        refine wpAnyH_take (i := 20) (oi := _) (v := ?_) rfl (by kernel_rfl) (by kernel_rfl) (by kernel_rfl) (fun _ _ _ h => h) (Or.inl ⟨by rfl, ?_⟩) (by assumption) ?_
        rotate_left
        · (intro w hSw; (try dsimp only at hSw); (try go_simp); (try with_reducible rfl))
        (try simp only [Act.put, List.getElem_toArray, List.getElem_cons_succ, List.getElem_cons_zero, List.setIfInBounds_toArray, List.set_cons_zero, List.set_cons_succ])
        refine wpAnyH_ready (rs := [21]) (by kernel_rfl) (by simp) ?_
        refine AllReadyH.cons (o := _) rfl (fun K hK => ?_) ?_
        · go_simp
          (with_reducible refine (calc_sub pc _ (KC.out.ext hE) (BigV.zero _) (Va.out.ext hE) L0.out La.out LN.out).mono ?_); rintro e y3 ⟨v3, rfl, hv3, hy⟩; have hE := hE.trans hy
          refine hK.out _ _ ?_ (fun hHeld2 => ?_)
          · (first | exact ⟨cell_ext hy hHeld.1, cell_ext hy hHeld.2.1, cell_ext hy hHeld.2.2.1, cell_ext hy hHeld.2.2.2.1, cell_ext hy hHeld.2.2.2.2.1, cell_ext hy hHeld.2.2.2.2.2⟩ | exact ⟨dc0, dc1, dc2, dc3, dc4, dc5⟩ | exact hHeld)
          clear hK K hHeld
          have hHeld := hHeld2
          clear hHeld2
          (try simp only [Act.put, List.getElem_toArray, List.getElem_cons_succ, List.getElem_cons_zero, List.setIfInBounds_toArray, List.set_cons_zero, List.set_cons_succ])
          refine wpAnyH_ready (rs := [22]) (by kernel_rfl) (by simp) ?_
          refine AllReadyH.cons (o := _) rfl (fun K hK => ?_) ?_
          · go_simp
            (with_reducible refine (gcd_any (Vb.out.ext hE) hv3.val Lb.out LN.out).mono ?_); rintro e y4 ⟨v4, rfl, hv4, hy⟩; have hE := hE.trans hy
            refine hK.out _ _ ?_ (fun hHeld2 => ?_)
            · (first | exact ⟨cell_ext hy hHeld.1, cell_ext hy hHeld.2.1, cell_ext hy hHeld.2.2.1, cell_ext hy hHeld.2.2.2.1, cell_ext hy hHeld.2.2.2.2.1, cell_ext hy hHeld.2.2.2.2.2⟩ | exact ⟨dc0, dc1, dc2, dc3, dc4, dc5⟩ | exact hHeld)
            clear hK K hHeld
            have hHeld := hHeld2
            clear hHeld2
            (try simp only [Act.put, List.getElem_toArray, List.getElem_cons_succ, List.getElem_cons_zero, List.setIfInBounds_toArray, List.set_cons_zero, List.set_cons_succ])
            refine wpAnyH_take (i := 23) (oi := _) (v := ?_) rfl (by kernel_rfl) (by kernel_rfl) (by kernel_rfl) (fun _ _ _ h => h) (Or.inl ⟨by rfl, ?_⟩) (by assumption) ?_
            rotate_left
            · (intro w hSw; (try dsimp only at hSw); (try go_simp); (try with_reducible rfl))
            (try simp only [Act.put, List.getElem_toArray, List.getElem_cons_succ, List.getElem_cons_zero, List.setIfInBounds_toArray, List.set_cons_zero, List.set_cons_succ])
            refine wpAnyH_take (i := 24) (oi := _) (v := ?_) rfl (by kernel_rfl) (by kernel_rfl) (by kernel_rfl) (fun _ _ _ h => h) (Or.inl ⟨by rfl, ?_⟩) (by assumption) ?_
            rotate_left
            · (intro w hSw; (try dsimp only at hSw); (try go_simp); (try with_reducible rfl))
            (try simp only [Act.put, List.getElem_toArray, List.getElem_cons_succ, List.getElem_cons_zero, List.setIfInBounds_toArray, List.set_cons_zero, List.set_cons_succ])
            refine wpAnyH_ready (rs := [25]) (by kernel_rfl) (by simp) ?_
            refine AllReadyH.cons (o := _) rfl (fun K hK => ?_) ?_
            · go_simp
              (with_reducible refine (of_val pc (KC.out.ext hE) hv4 LG2.out).mono ?_); rintro e y5 ⟨rfl, hy⟩; have hv4 := hv4.ext hy; have hE := hE.trans hy
              refine hK.out _ _ ?_ (fun hHeld2 => ?_)
              · (first | exact ⟨cell_ext hy hHeld.1, cell_ext hy hHeld.2.1, cell_ext hy hHeld.2.2.1, cell_ext hy hHeld.2.2.2.1, cell_ext hy hHeld.2.2.2.2.1, cell_ext hy hHeld.2.2.2.2.2⟩ | exact ⟨dc0, dc1, dc2, dc3, dc4, dc5⟩ | exact hHeld)
              clear hK K hHeld
              have hHeld := hHeld2
              clear hHeld2
              (try simp only [Act.put, List.getElem_toArray, List.getElem_cons_succ, List.getElem_cons_zero, List.setIfInBounds_toArray, List.set_cons_zero, List.set_cons_succ])
              refine wpAnyH_ready (rs := [26]) (by kernel_rfl) (by simp) ?_
              refine AllReadyH.cons (o := _) rfl (fun K hK => ?_) ?_
              · go_simp
                (with_reducible refine (sameT (Vg.out.ext hE) hv4 HG3.out).mono ?_); rintro e y6 ⟨rfl, hy⟩; have hE := hE.trans hy
                refine hK.out _ _ ?_ (fun hHeld2 => ?_)
                · (first | exact ⟨cell_ext hy hHeld.1, cell_ext hy hHeld.2.1, cell_ext hy hHeld.2.2.1, cell_ext hy hHeld.2.2.2.1, cell_ext hy hHeld.2.2.2.2.1, cell_ext hy hHeld.2.2.2.2.2⟩ | exact ⟨dc0, dc1, dc2, dc3, dc4, dc5⟩ | exact hHeld)
                clear hK K hHeld
                have hHeld := hHeld2
                clear hHeld2
                (try simp only [Act.put, List.getElem_toArray, List.getElem_cons_succ, List.getElem_cons_zero, List.setIfInBounds_toArray, List.set_cons_zero, List.set_cons_succ])
                refine wpAnyH_take (i := 27) (oi := _) (v := ?_) rfl (by kernel_rfl) (by kernel_rfl) (by kernel_rfl) (fun _ _ _ h => h) (Or.inl ⟨by rfl, ?_⟩) (by assumption) ?_
                rotate_left
                · (intro w hSw; (try dsimp only at hSw); (try go_simp); (try with_reducible rfl))
                (try simp only [Act.put, List.getElem_toArray, List.getElem_cons_succ, List.getElem_cons_zero, List.setIfInBounds_toArray, List.set_cons_zero, List.set_cons_succ])
                refine wpAnyH_take (i := 28) (oi := _) (v := ?_) rfl (by kernel_rfl) (by kernel_rfl) (by kernel_rfl) (fun _ _ _ h => h) (Or.inl ⟨by rfl, ?_⟩) (by assumption) ?_
                rotate_left
                · (intro w hSw; (try dsimp only at hSw); (try go_simp); (try with_reducible rfl))
                (try simp only [Act.put, List.getElem_toArray, List.getElem_cons_succ, List.getElem_cons_zero, List.setIfInBounds_toArray, List.set_cons_zero, List.set_cons_succ])
                refine wpAnyH_done (by kernel_rfl) ?_ _
                (go_wp2_with fail; go_meet; exact ⟨rfl, hE⟩)
              exact AllReadyH.nil
            exact AllReadyH.nil
          exact AllReadyH.nil
        exact AllReadyH.nil
      exact AllReadyH.nil
    exact AllReadyH.nil
  case rest =>
  obtain ⟨rfl, hy⟩ := hcut
  have hx := hx.trans hy
  have Ka := Lib.hid (Ka.out.ext hy)
  have Kb := Lib.hid (Kb.out.ext hy)
  have Kd := Lib.hid (Kd.out.ext hy)
  have Va := Lib.hid (Va.out.ext hy)
  have Vb := Lib.hid (Vb.out.ext hy)
  have Vd := Lib.hid (Vd.out.ext hy)
  have KC := Lib.hid (KC.out.ext hy)
  have Vg := Lib.hid (Vg.out.ext hy)
  have Kg := Lib.hid (Kg.out.ext hy)
  clear hy HG1 HG2 HG3 DN LN LG2
  have HCB := Lib.hid (show dvdB zd za = false from decide_eq_false HC.out)
  have cd0 := Kd.out.cell (i := 0) (v := .bool nd) rfl
  have cd1 := Kd.out.cell (i := 1) (v := .slice ad qd cd) rfl
  have ca0 := Ka.out.cell (i := 0) (v := .bool na) rfl
  have ca1 := Ka.out.cell (i := 1) (v := .slice aa qa ca) rfl
  go_wp2_with fail
  with_reducible refine (divT Vd.out Va.out Ld.out La.out HCB.out).mono ?_
  rintro e x11 ⟨rfl, hy⟩
  have hx := hx.trans hy
  have Ka := Lib.hid (Ka.out.ext hy)
  have Kb := Lib.hid (Kb.out.ext hy)
  have Kd := Lib.hid (Kd.out.ext hy)
  have Va := Lib.hid (Va.out.ext hy)
  have Vb := Lib.hid (Vb.out.ext hy)
  have Vd := Lib.hid (Vd.out.ext hy)
  have KC := Lib.hid (KC.out.ext hy)
  have Vg := Lib.hid (Vg.out.ext hy)
  have Kg := Lib.hid (Kg.out.ext hy)
  clear hy
  clear cd0 cd1 ca0 ca1
  have cd0 := Kd.out.cell (i := 0) (v := .bool nd) rfl
  have cd1 := Kd.out.cell (i := 1) (v := .slice ad qd cd) rfl
  go_upto_region 14 with fail
  have hl := Ext.alloc x11 (.cells #[.bool false, .slice ad qd cd] 24)
  have hx := hx.trans hl
  have Ka := Lib.hid (Ka.out.ext hl)
  have Kb := Lib.hid (Kb.out.ext hl)
  have Kd := Lib.hid (Kd.out.ext hl)
  have Va := Lib.hid (Va.out.ext hl)
  have Vb := Lib.hid (Vb.out.ext hl)
  have Vd := Lib.hid (Vd.out.ext hl)
  have KC := Lib.hid (KC.out.ext hl)
  have Vg := Lib.hid (Vg.out.ext hl)
  have Kg := Lib.hid (Kg.out.ext hl)
  have Ks := Lib.hid (Blk.new0 x11 #[.bool false, .slice ad qd cd] 24)
  clear hl cd0 cd1
  generalize x11.alloc (.cells #[.bool false, .slice ad qd cd] 24) = x12 at *
  generalize x11.heap.size = ps at *
  have Vs := Lib.hid Vd.out.abs
  have Ds : Hid ((zd.natAbs : Int).natAbs < 1073741824 ^ 12) := Lib.hid (by rw [Int.natAbs_natCast]; exact Dd.out)
  have Ls := Lib.hid (len_lt Ds.out (by omega))
  have D1 := Lib.hid (mul_lt Da.out Dd.out)
  have D2 := Lib.hid (mul_lt Db.out Dd.out)
  have D3 := Lib.hid (mul_lt Dg.out Ds.out)
  have L1 := Lib.hid (len_lt D1.out (by omega))
  have L2 := Lib.hid (len_lt D2.out (by omega))
  have L3 := Lib.hid (len_lt D3.out (by omega))
  have L4 := Lib.hid (len_lt (gcd_lt D1.out D2.out) (by omega))
  have HE := Lib.hid (show ((Int.gcd (za * zd) (zb * zd) : Nat) : Int) = ((Int.gcd za zb : Nat) : Int) * (zd.natAbs : Int) from by rw [Int.gcd_mul_right]; exact Int.natCast_mul _ _)
  have dc0 : x12.cell? ⟨w.heap.size, 0, none⟩ = some (.bool na) := Ka.out.cell (i := 0) rfl
  have dc1 : x12.cell? ⟨w.heap.size, 1, none⟩ = some (.slice aa qa ca) := Ka.out.cell (i := 1) rfl
  have dc2 : x12.cell? ⟨w.heap.size + 1, 0, none⟩ = some (.bool nb) := Kb.out.cell (i := 0) rfl
  have dc3 : x12.cell? ⟨w.heap.size + 1, 1, none⟩ = some (.slice ab qb cb) := Kb.out.cell (i := 1) rfl
  have dc4 : x12.cell? ⟨w.heap.size + 2, 0, none⟩ = some (.bool nd) := Kd.out.cell (i := 0) rfl
  have dc5 : x12.cell? ⟨w.heap.size + 2, 1, none⟩ = some (.slice ad qd cd) := Kd.out.cell (i := 1) rfl
  have dc6 : x12.cell? ⟨pg, 0, none⟩ = some (.bool false) := Kg.out.cell (i := 0) rfl
  have dc7 : x12.cell? ⟨pg, 1, none⟩ = some (.slice ag qg cg) := Kg.out.cell (i := 1) rfl
  have dc8 : x12.cell? ⟨ps, 0, none⟩ = some (.bool false) := Ks.out.cell (i := 0) rfl
  have dc9 : x12.cell? ⟨ps, 1, none⟩ = some (.slice ad qd cd) := Ks.out.cell (i := 1) rfl
  have dc10 : x12.cell? ⟨pc, 0, none⟩ = some (.bool false) := KC.out.cell (i := 0) rfl
  have hE : Ext x12 x12.drew := (Ext.refl _).drew
  refine wp_region_held_drew (S := (fun w' => w'.cell? ⟨w.heap.size, 0, none⟩ = some (.bool na) ∧ w'.cell? ⟨w.heap.size, 1, none⟩ = some (.slice aa qa ca) ∧ w'.cell? ⟨w.heap.size + 1, 0, none⟩ = some (.bool nb) ∧ w'.cell? ⟨w.heap.size + 1, 1, none⟩ = some (.slice ab qb cb) ∧ w'.cell? ⟨w.heap.size + 2, 0, none⟩ = some (.bool nd) ∧ w'.cell? ⟨w.heap.size + 2, 1, none⟩ = some (.slice ad qd cd) ∧ w'.cell? ⟨pg, 0, none⟩ = some (.bool false) ∧ w'.cell? ⟨pg, 1, none⟩ = some (.slice ag qg cg) ∧ w'.cell? ⟨ps, 0, none⟩ = some (.bool false) ∧ w'.cell? ⟨ps, 1, none⟩ = some (.slice ad qd cd) ∧ w'.cell? ⟨pc, 0, none⟩ = some (.bool false))) (by kernel_rfl) ?_ (fun hHeld => ?_)
  · (first | exact ⟨cell_ext hy hHeld.1, cell_ext hy hHeld.2.1, cell_ext hy hHeld.2.2.1, cell_ext hy hHeld.2.2.2.1, cell_ext hy hHeld.2.2.2.2.1, cell_ext hy hHeld.2.2.2.2.2.1, cell_ext hy hHeld.2.2.2.2.2.2.1, cell_ext hy hHeld.2.2.2.2.2.2.2.1, cell_ext hy hHeld.2.2.2.2.2.2.2.2.1, cell_ext hy hHeld.2.2.2.2.2.2.2.2.2.1, cell_ext hy hHeld.2.2.2.2.2.2.2.2.2.2⟩ | exact ⟨dc0, dc1, dc2, dc3, dc4, dc5, dc6, dc7, dc8, dc9, dc10⟩ | exact hHeld)
  refine wpAnyH_take (i := 0) (oi := _) (v := ?_) rfl (by kernel_rfl) (by kernel_rfl) (by kernel_rfl) (fun _ _ _ h => h) (Or.inl ⟨by rfl, ?_⟩) (by assumption) ?_
  rotate_left
  · (intro w hSw; (try dsimp only at hSw); (try go_simp); (try with_reducible rfl))
  (try simp only [Act.put, List.getElem_toArray, List.getElem_cons_succ, List.getElem_cons_zero, List.setIfInBounds_toArray, List.set_cons_zero, List.set_cons_succ])
  refine wpAnyH_take (i := 1) (oi := _) (v := ?_) rfl (by kernel_rfl) (by kernel_rfl) (by kernel_rfl) (fun _ _ _ h => h) (Or.inl ⟨by rfl, ?_⟩) (by assumption) ?_
  rotate_left
  · (intro w hSw; (try dsimp only at hSw); (try go_simp); (try with_reducible rfl))
  (try simp only [Act.put, List.getElem_toArray, List.getElem_cons_succ, List.getElem_cons_zero, List.setIfInBounds_toArray, List.set_cons_zero, List.set_cons_succ])
  refine wpAnyH_take (i := 3) (oi := _) (v := ?_) rfl (by kernel_rfl) (by kernel_rfl) (by kernel_rfl) (fun _ _ _ h => h) (Or.inl ⟨by rfl, ?_⟩) (by assumption) ?_
  rotate_left
  · (intro w hSw; (try dsimp only at hSw); (try go_simp); (try with_reducible rfl))
  (try simp only [Act.put, List.getElem_toArray, List.getElem_cons_succ, List.getElem_cons_zero, List.setIfInBounds_toArray, List.set_cons_zero, List.set_cons_succ])
  refine wpAnyH_take (i := 4) (oi := _) (v := ?_) rfl (by kernel_rfl) (by kernel_rfl) (by kernel_rfl) (fun _ _ _ h => h) (Or.inl ⟨by rfl, ?_⟩) (by assumption) ?_
  rotate_left
  · (intro w hSw; (try dsimp only at hSw); (try go_simp); (try with_reducible rfl))
  (try simp only [Act.put, List.getElem_toArray, List.getElem_cons_succ, List.getElem_cons_zero, List.setIfInBounds_toArray, List.set_cons_zero, List.set_cons_succ])
  refine wpAnyH_take (i := 10) (oi := _) (v := ?_) rfl (by kernel_rfl) (by kernel_rfl) (by kernel_rfl) (fun _ _ _ h => h) (Or.inl ⟨by rfl, ?_⟩) (by assumption) ?_
  rotate_left
  · (intro w hSw; (try dsimp only at hSw); (try go_simp); (try with_reducible rfl))
  (try simp only [Act.put, List.getElem_toArray, List.getElem_cons_succ, List.getElem_cons_zero, List.setIfInBounds_toArray, List.set_cons_zero, List.set_cons_succ])
  refine wpAnyH_take (i := 11) (oi := _) (v := ?_) rfl (by kernel_rfl) (by kernel_rfl) (by kernel_rfl) (fun _ _ _ h => h) (Or.inl ⟨by rfl, ?_⟩) (by assumption) ?_
  rotate_left
  · (intro w hSw; (try dsimp only at hSw); (try go_simp); (try with_reducible rfl))
  (try simp only [Act.put, List.getElem_toArray, List.getElem_cons_succ, List.getElem_cons_zero, List.setIfInBounds_toArray, List.set_cons_zero, List.set_cons_succ])
  refine wpAnyH_ready (rs := [2]) (by kernel_rfl) (by simp) ?_
  refine AllReadyH.cons (o := _) rfl (fun K hK => ?_) ?_
  · go_simp
    (with_reducible refine (calc_mul pc _ (KC.out.ext hE) (Va.out.ext hE) (Vd.out.ext hE) La.out Ld.out L1.out).mono ?_); rintro e y1 ⟨v1, rfl, hv1, hy⟩; have hv1 := hv1.val; have hE := hE.trans hy
    refine hK.out _ _ ?_ (fun hHeld2 => ?_)
    · (first | exact ⟨cell_ext hy hHeld.1, cell_ext hy hHeld.2.1, cell_ext hy hHeld.2.2.1, cell_ext hy hHeld.2.2.2.1, cell_ext hy hHeld.2.2.2.2.1, cell_ext hy hHeld.2.2.2.2.2.1, cell_ext hy hHeld.2.2.2.2.2.2.1, cell_ext hy hHeld.2.2.2.2.2.2.2.1, cell_ext hy hHeld.2.2.2.2.2.2.2.2.1, cell_ext hy hHeld.2.2.2.2.2.2.2.2.2.1, cell_ext hy hHeld.2.2.2.2.2.2.2.2.2.2⟩ | exact ⟨dc0, dc1, dc2, dc3, dc4, dc5, dc6, dc7, dc8, dc9, dc10⟩ | exact hHeld)
    clear hK K hHeld
    have hHeld := hHeld2
    clear hHeld2
    (try simp only [Act.put, List.getElem_toArray, List.getElem_cons_succ, List.getElem_cons_zero, List.setIfInBounds_toArray, List.set_cons_zero, List.set_cons_succ])
    refine wpAnyH_ready (rs := [5]) (by kernel_rfl) (by simp) ?_
    refine AllReadyH.cons (o := _) rfl (fun K hK => ?_) ?_
    · go_simp
      (with_reducible refine (calc_mul pc _ (KC.out.ext hE) (Vb.out.ext hE) (Vd.out.ext hE) Lb.out Ld.out L2.out).mono ?_); rintro e y2 ⟨v2, rfl, hv2, hy⟩; have hv1 := hv1.ext hy; have hv2 := hv2.val; have hE := hE.trans hy
      refine hK.out _ _ ?_ (fun hHeld2 => ?_)
      · (first | exact ⟨cell_ext hy hHeld.1, cell_ext hy hHeld.2.1, cell_ext hy hHeld.2.2.1, cell_ext hy hHeld.2.2.2.1, cell_ext hy hHeld.2.2.2.2.1, cell_ext hy hHeld.2.2.2.2.2.1, cell_ext hy hHeld.2.2.2.2.2.2.1, cell_ext hy hHeld.2.2.2.2.2.2.2.1, cell_ext hy hHeld.2.2.2.2.2.2.2.2.1, cell_ext hy hHeld.2.2.2.2.2.2.2.2.2.1, cell_ext hy hHeld.2.2.2.2.2.2.2.2.2.2⟩ | exact ⟨dc0, dc1, dc2, dc3, dc4, dc5, dc6, dc7, dc8, dc9, dc10⟩ | exact hHeld)
      clear hK K hHeld
      have hHeld := hHeld2
      clear hHeld2
      (try simp only [Act.put, List.getElem_toArray, List.getElem_cons_succ, List.getElem_cons_zero, List.setIfInBounds_toArray, List.set_cons_zero, List.set_cons_succ])
      refine wpAnyH_ready (rs := [6]) (by kernel_rfl) (by simp) ?_
      refine AllReadyH.cons (o := _) rfl (fun K hK => ?_) ?_
      · go_simp
        (with_reducible refine (gcd_any hv1 hv2 L1.out L2.out).mono ?_); rintro e y3 ⟨v3, rfl, hv3, hy⟩; have hE := hE.trans hy
        refine hK.out _ _ ?_ (fun hHeld2 => ?_)
        · (first | exact ⟨cell_ext hy hHeld.1, cell_ext hy hHeld.2.1, cell_ext hy hHeld.2.2.1, cell_ext hy hHeld.2.2.2.1, cell_ext hy hHeld.2.2.2.2.1, cell_ext hy hHeld.2.2.2.2.2.1, cell_ext hy hHeld.2.2.2.2.2.2.1, cell_ext hy hHeld.2.2.2.2.2.2.2.1, cell_ext hy hHeld.2.2.2.2.2.2.2.2.1, cell_ext hy hHeld.2.2.2.2.2.2.2.2.2.1, cell_ext hy hHeld.2.2.2.2.2.2.2.2.2.2⟩ | exact ⟨dc0, dc1, dc2, dc3, dc4, dc5, dc6, dc7, dc8, dc9, dc10⟩ | exact hHeld)
        clear hK K hHeld
        have hHeld := hHeld2
        clear hHeld2
        (try simp only [Act.put, List.getElem_toArray, List.getElem_cons_succ, List.getElem_cons_zero, List.setIfInBounds_toArray, List.set_cons_zero, List.set_cons_succ])
        refine wpAnyH_take (i := 7) (oi := _) (v := ?_) rfl (by kernel_rfl) (by kernel_rfl) (by kernel_rfl) (fun _ _ _ h => h) (Or.inl ⟨by rfl, ?_⟩) (by assumption) ?_
        rotate_left
        · (intro w hSw; (try dsimp only at hSw); (try go_simp); (try with_reducible rfl))
        (try simp only [Act.put, List.getElem_toArray, List.getElem_cons_succ, List.getElem_cons_zero, List.setIfInBounds_toArray, List.set_cons_zero, List.set_cons_succ])
        refine wpAnyH_take (i := 8) (oi := _) (v := ?_) rfl (by kernel_rfl) (by kernel_rfl) (by kernel_rfl) (fun _ _ _ h => h) (Or.inl ⟨by rfl, ?_⟩) (by assumption) ?_
        rotate_left
        · (intro w hSw; (try dsimp only at hSw); (try go_simp); (try with_reducible rfl))
        (try simp only [Act.put, List.getElem_toArray, List.getElem_cons_succ, List.getElem_cons_zero, List.setIfInBounds_toArray, List.set_cons_zero, List.set_cons_succ])
        refine wpAnyH_ready (rs := [9]) (by kernel_rfl) (by simp) ?_
        refine AllReadyH.cons (o := _) rfl (fun K hK => ?_) ?_
        · go_simp
          (with_reducible refine (of_val pc (KC.out.ext hE) hv3 L4.out).mono ?_); rintro e y4 ⟨rfl, hy⟩; have hv3 := hv3.ext hy; have hE := hE.trans hy
          refine hK.out _ _ ?_ (fun hHeld2 => ?_)
          · (first | exact ⟨cell_ext hy hHeld.1, cell_ext hy hHeld.2.1, cell_ext hy hHeld.2.2.1, cell_ext hy hHeld.2.2.2.1, cell_ext hy hHeld.2.2.2.2.1, cell_ext hy hHeld.2.2.2.2.2.1, cell_ext hy hHeld.2.2.2.2.2.2.1, cell_ext hy hHeld.2.2.2.2.2.2.2.1, cell_ext hy hHeld.2.2.2.2.2.2.2.2.1, cell_ext hy hHeld.2.2.2.2.2.2.2.2.2.1, cell_ext hy hHeld.2.2.2.2.2.2.2.2.2.2⟩ | exact ⟨dc0, dc1, dc2, dc3, dc4, dc5, dc6, dc7, dc8, dc9, dc10⟩ | exact hHeld)
          clear hK K hHeld
          have hHeld := hHeld2
          clear hHeld2
          (try simp only [Act.put, List.getElem_toArray, List.getElem_cons_succ, List.getElem_cons_zero, List.setIfInBounds_toArray, List.set_cons_zero, List.set_cons_succ])
          refine wpAnyH_ready (rs := [12]) (by kernel_rfl) (by simp) ?_
          refine AllReadyH.cons (o := _) rfl (fun K hK => ?_) ?_
          · go_simp
            (with_reducible refine (calc_mul pc _ (KC.out.ext hE) (Vg.out.ext hE) (Vs.out.ext hE) Lg.out Ls.out L3.out).mono ?_); rintro e y5 ⟨v5, rfl, hv5, hy⟩; have hv3 := hv3.ext hy; have hv5 := hv5.val; have hE := hE.trans hy
            refine hK.out _ _ ?_ (fun hHeld2 => ?_)
            · (first | exact ⟨cell_ext hy hHeld.1, cell_ext hy hHeld.2.1, cell_ext hy hHeld.2.2.1, cell_ext hy hHeld.2.2.2.1, cell_ext hy hHeld.2.2.2.2.1, cell_ext hy hHeld.2.2.2.2.2.1, cell_ext hy hHeld.2.2.2.2.2.2.1, cell_ext hy hHeld.2.2.2.2.2.2.2.1, cell_ext hy hHeld.2.2.2.2.2.2.2.2.1, cell_ext hy hHeld.2.2.2.2.2.2.2.2.2.1, cell_ext hy hHeld.2.2.2.2.2.2.2.2.2.2⟩ | exact ⟨dc0, dc1, dc2, dc3, dc4, dc5, dc6, dc7, dc8, dc9, dc10⟩ | exact hHeld)
            clear hK K hHeld
            have hHeld := hHeld2
            clear hHeld2
            (try simp only [Act.put, List.getElem_toArray, List.getElem_cons_succ, List.getElem_cons_zero, List.setIfInBounds_toArray, List.set_cons_zero, List.set_cons_succ])
            refine wpAnyH_ready (rs := [13]) (by kernel_rfl) (by simp) ?_
            refine AllReadyH.cons (o := _) rfl (fun K hK => ?_) ?_
            · go_simp
              (with_reducible refine (sameT hv3 hv5 HE.out).mono ?_); rintro e y6 ⟨rfl, hy⟩; have hE := hE.trans hy
              refine hK.out _ _ ?_ (fun hHeld2 => ?_)
              · (first | exact ⟨cell_ext hy hHeld.1, cell_ext hy hHeld.2.1, cell_ext hy hHeld.2.2.1, cell_ext hy hHeld.2.2.2.1, cell_ext hy hHeld.2.2.2.2.1, cell_ext hy hHeld.2.2.2.2.2.1, cell_ext hy hHeld.2.2.2.2.2.2.1, cell_ext hy hHeld.2.2.2.2.2.2.2.1, cell_ext hy hHeld.2.2.2.2.2.2.2.2.1, cell_ext hy hHeld.2.2.2.2.2.2.2.2.2.1, cell_ext hy hHeld.2.2.2.2.2.2.2.2.2.2⟩ | exact ⟨dc0, dc1, dc2, dc3, dc4, dc5, dc6, dc7, dc8, dc9, dc10⟩ | exact hHeld)
              clear hK K hHeld
              have hHeld := hHeld2
              clear hHeld2
              (try simp only [Act.put, List.getElem_toArray, List.getElem_cons_succ, List.getElem_cons_zero, List.setIfInBounds_toArray, List.set_cons_zero, List.set_cons_succ])
              refine wpAnyH_take (i := 14) (oi := _) (v := ?_) rfl (by kernel_rfl) (by kernel_rfl) (by kernel_rfl) (fun _ _ _ h => h) (Or.inl ⟨by rfl, ?_⟩) (by assumption) ?_
              rotate_left
              · (intro w hSw; (try dsimp only at hSw); (try go_simp); (try with_reducible rfl))
              (try simp only [Act.put, List.getElem_toArray, List.getElem_cons_succ, List.getElem_cons_zero, List.setIfInBounds_toArray, List.set_cons_zero, List.set_cons_succ])
              refine wpAnyH_take (i := 15) (oi := _) (v := ?_) rfl (by kernel_rfl) (by kernel_rfl) (by kernel_rfl) (fun _ _ _ h => h) (Or.inl ⟨by rfl, ?_⟩) (by assumption) ?_
              rotate_left
              · (intro w hSw; (try dsimp only at hSw); (try go_simp); (try with_reducible rfl))
              (try simp only [Act.put, List.getElem_toArray, List.getElem_cons_succ, List.getElem_cons_zero, List.setIfInBounds_toArray, List.set_cons_zero, List.set_cons_succ])
              refine wpAnyH_take (i := 16) (oi := _) (v := ?_) rfl (by kernel_rfl) (by kernel_rfl) (by kernel_rfl) (fun _ _ _ h => h) (Or.inl ⟨by rfl, ?_⟩) (by assumption) ?_
              rotate_left
              · (intro w hSw; (try dsimp only at hSw); (try go_simp); (try with_reducible rfl))
              (try simp only [Act.put, List.getElem_toArray, List.getElem_cons_succ, List.getElem_cons_zero, List.setIfInBounds_toArray, List.set_cons_zero, List.set_cons_succ])
              refine wpAnyH_take (i := 17) (oi := _) (v := ?_) rfl (by kernel_rfl) (by kernel_rfl) (by kernel_rfl) (fun _ _ _ h => h) (Or.inl ⟨by rfl, ?_⟩) (by assumption) ?_
              rotate_left
              · (intro w hSw; (try dsimp only at hSw); (try go_simp); (try with_reducible rfl))
              (try simp only [Act.put, List.getElem_toArray, List.getElem_cons_succ, List.getElem_cons_zero, List.setIfInBounds_toArray, List.set_cons_zero, List.set_cons_succ])
              refine wpAnyH_take (i := 18) (oi := _) (v := ?_) rfl (by kernel_rfl) (by kernel_rfl) (by kernel_rfl) (fun _ _ _ h => h) (Or.inl ⟨by rfl, ?_⟩) (by assumption) ?_
              rotate_left
              · (intro w hSw; (try dsimp only at hSw); (try go_simp); (try with_reducible rfl))
              (try simp only [Act.put, List.getElem_toArray, List.getElem_cons_succ, List.getElem_cons_zero, List.setIfInBounds_toArray, List.set_cons_zero, List.set_cons_succ])
              refine wpAnyH_take (i := 19) (oi := _) (v := ?_) rfl (by kernel_rfl) (by kernel_rfl) (by kernel_rfl) (fun _ _ _ h => h) (Or.inl ⟨by rfl, ?_⟩) (by assumption) ?_
              rotate_left
              · (intro w hSw; (try dsimp only at hSw); (try go_simp); (try with_reducible rfl))
              (try simp only [Act.put, List.getElem_toArray, List.getElem_cons_succ, List.getElem_cons_zero, List.setIfInBounds_toArray, List.set_cons_zero, List.set_cons_succ])
              refine wpAnyH_done (by kernel_rfl) ?_ _
              (go_wp2_with fail; go_ret; exact ⟨rfl, hx.trans hE⟩)
            exact AllReadyH.nil
          exact AllReadyH.nil
        exact AllReadyH.nil
      exact AllReadyH.nil
    exact AllReadyH.nil
  exact AllReadyH.nil
set_option maxHeartbeats 4000000 in
theorem law_Gcd2 (na nb nd : Bool) (aa ab ad : Option Addr) (qa qb qd ca cb cd : Nat) (la_ lb_ ld_ : List Int) (w : World) (ha : Ints w aa ca la_) (hb : Ints w ab cb lb_) (hd : Ints w ad cd ld_) (la : la_.length = qa) (lb : lb_.length = qb) (ld : ld_.length = qd) (hv : ∀ x ∈ ([⟨na, aa, ca, la_⟩, ⟨nb, ab, cb, lb_⟩, ⟨nd, ad, cd, ld_⟩] : List BigA), okA x = true) (hc : (sgn nd (dval ld_) ∣ sgn na (dval la_)) ∧ ¬ (sgn nd (dval ld_) ∣ sgn nb (dval lb_))) :
    Calls Tryd.prog 7 #[.agg #[.bool na, .slice aa qa ca], .agg #[.bool nb, .slice ab qb cb], .agg #[.bool nd, .slice ad qd cd]] w fun e w' => e = .returned (.bool true) ∧ Ext w w' := by
  have HC := Lib.hid hc
  clear hc
  have HIa := Lib.hid ha
  have HIb := Lib.hid hb
  have HId := Lib.hid hd
  have HLa := Lib.hid la
  have HLb := Lib.hid lb
  have HLd := Lib.hid ld
  have HV := Lib.hid hv
  clear la lb ld ha hb hd hv
  have hx : Ext w ((((w).alloc (.cells #[.bool na, .slice aa qa ca] 24)).alloc (.cells #[.bool nb, .slice ab qb cb] 24)).alloc (.cells #[.bool nd, .slice ad qd cd] 24)) := (by repeat (first | with_reducible exact Ext.refl _ | with_reducible assumption | with_reducible refine Ext.drewN ?_ _ | with_reducible refine Ext.drew ?_ | with_reducible refine Ext.alloc' ?_ _ | with_reducible refine Ext.set ?_ (by dsimp only; omega) _))
  have Ka : Blk ((((w).alloc (.cells #[.bool na, .slice aa qa ca] 24)).alloc (.cells #[.bool nb, .slice ab qb cb] 24)).alloc (.cells #[.bool nd, .slice ad qd cd] 24)) (w.heap.size) #[.bool na, .slice aa qa ca] 24 := by have h := ((Blk.new0 (w) #[.bool na, .slice aa qa ca] 24).alloc (.cells #[.bool nb, .slice ab qb cb] 24)).alloc (.cells #[.bool nd, .slice ad qd cd] 24); simpa [Nat.add_assoc] using h
  have Ka := Lib.hid Ka
  have Kb : Blk ((((w).alloc (.cells #[.bool na, .slice aa qa ca] 24)).alloc (.cells #[.bool nb, .slice ab qb cb] 24)).alloc (.cells #[.bool nd, .slice ad qd cd] 24)) (w.heap.size + 1) #[.bool nb, .slice ab qb cb] 24 := by have h := (Blk.new0 ((w).alloc (.cells #[.bool na, .slice aa qa ca] 24)) #[.bool nb, .slice ab qb cb] 24).alloc (.cells #[.bool nd, .slice ad qd cd] 24); simpa [Nat.add_assoc] using h
  have Kb := Lib.hid Kb
  have Kd : Blk ((((w).alloc (.cells #[.bool na, .slice aa qa ca] 24)).alloc (.cells #[.bool nb, .slice ab qb cb] 24)).alloc (.cells #[.bool nd, .slice ad qd cd] 24)) (w.heap.size + 2) #[.bool nd, .slice ad qd cd] 24 := by have h := Blk.new0 (((w).alloc (.cells #[.bool na, .slice aa qa ca] 24)).alloc (.cells #[.bool nb, .slice ab qb cb] 24)) #[.bool nd, .slice ad qd cd] 24; simpa [Nat.add_assoc] using h
  have Kd := Lib.hid Kd
  go_enter Tryd.func7, Tryd.ntmps7
  go_upto_region 1 with fail
  try simp only [Nat.add_assoc, Nat.reduceAdd, Nat.add_zero]
  generalize (((w).alloc (.cells #[.bool na, .slice aa qa ca] 24)).alloc (.cells #[.bool nb, .slice ab qb cb] 24)).alloc (.cells #[.bool nd, .slice ad qd cd] 24) = x13 at *
  go_wp2_with fail
  with_reducible refine (law09Sane _).mono ?_
  rintro e x14 ⟨rfl, hy⟩
  have hx := hx.trans hy
  have Ka := Lib.hid (Ka.out.ext hy)
  have Kb := Lib.hid (Kb.out.ext hy)
  have Kd := Lib.hid (Kd.out.ext hy)
  clear hy
  have ca0 := Ka.out.cell (i := 0) (v := .bool na) rfl
  have ca1 := Ka.out.cell (i := 1) (v := .slice aa qa ca) rfl
  have cb0 := Kb.out.cell (i := 0) (v := .bool nb) rfl
  have cb1 := Kb.out.cell (i := 1) (v := .slice ab qb cb) rfl
  have cd0 := Kd.out.cell (i := 0) (v := .bool nd) rfl
  have cd1 := Kd.out.cell (i := 1) (v := .slice ad qd cd) rfl
  have hl := Ext.alloc x14 (.cells #[.bool na, .slice aa qa ca, .bool nb, .slice ab qb cb, .bool nd, .slice ad qd cd] 24)
  have hrow : BigRow (x14.alloc (.cells #[.bool na, .slice aa qa ca, .bool nb, .slice ab qb cb, .bool nd, .slice ad qd cd] 24)) x14.heap.size [⟨na, aa, ca, la_⟩, ⟨nb, ab, cb, lb_⟩, ⟨nd, ad, cd, ld_⟩] := by
    have hB := Blk.new0 x14 #[.bool na, .slice aa qa ca, .bool nb, .slice ab qb cb, .bool nd, .slice ad qd cd] 24
    have hxl := hx.trans hl
    rw [← HLa.out, ← HLb.out, ← HLd.out] at hB hxl ⊢
    exact bigRow3 hB (HIa.out.ext hxl) (HIb.out.ext hxl) (HId.out.ext hxl)
  have HROW := Lib.hid hrow
  clear hrow
  have HVAL := Lib.hid (law_valid_yes _ _ _ HROW.out (by simp) HV.out)
  simp only [List.length_cons, List.length_nil, Nat.zero_add, Nat.reduceAdd] at HVAL
  go_wp2_with fail
  with_reducible refine (HVAL.out).mono ?_
  rintro e x15 ⟨rfl, hy⟩
  have hx := hx.trans (hl.trans hy)
  have Ka := Lib.hid (Ka.out.ext (hl.trans hy))
  have Kb := Lib.hid (Kb.out.ext (hl.trans hy))
  have Kd := Lib.hid (Kd.out.ext (hl.trans hy))
  clear hl hy HROW HVAL
  clear ca0 ca1 cb0 cb1 cd0 cd1
  go_upto_region 6 with fail
  obtain ⟨hBa, hDa⟩ := okA_z (HV.out _ (show (⟨na, aa, ca, la_⟩ : BigA) ∈ ([⟨na, aa, ca, la_⟩, ⟨nb, ab, cb, lb_⟩, ⟨nd, ad, cd, ld_⟩] : List BigA) from by simp))
  obtain ⟨za, hza⟩ : ∃ z, sgn na (dval la_) = z := ⟨_, rfl⟩
  have Va : Hid (BigV w (.agg #[.bool na, .slice aa qa ca]) za) := Lib.hid ⟨na, la_, ⟨aa, ca, by rw [HLa.out], HIa.out⟩, by rw [← hza]; exact hBa⟩
  have Va := Lib.hid (Va.out.ext hx)
  have Da : Hid (za.natAbs < 1073741824 ^ 12) := Lib.hid (abs_lt (by rw [← hza]; exact hDa))
  have La : Hid (Len za) := Lib.hid (len_lt Da.out (by omega))
  obtain ⟨hBb, hDb⟩ := okA_z (HV.out _ (show (⟨nb, ab, cb, lb_⟩ : BigA) ∈ ([⟨na, aa, ca, la_⟩, ⟨nb, ab, cb, lb_⟩, ⟨nd, ad, cd, ld_⟩] : List BigA) from by simp))
  obtain ⟨zb, hzb⟩ : ∃ z, sgn nb (dval lb_) = z := ⟨_, rfl⟩
  have Vb : Hid (BigV w (.agg #[.bool nb, .slice ab qb cb]) zb) := Lib.hid ⟨nb, lb_, ⟨ab, cb, by rw [HLb.out], HIb.out⟩, by rw [← hzb]; exact hBb⟩
  have Vb := Lib.hid (Vb.out.ext hx)
  have Db : Hid (zb.natAbs < 1073741824 ^ 12) := Lib.hid (abs_lt (by rw [← hzb]; exact hDb))
  have Lb : Hid (Len zb) := Lib.hid (len_lt Db.out (by omega))
  obtain ⟨hBd, hDd⟩ := okA_z (HV.out _ (show (⟨nd, ad, cd, ld_⟩ : BigA) ∈ ([⟨na, aa, ca, la_⟩, ⟨nb, ab, cb, lb_⟩, ⟨nd, ad, cd, ld_⟩] : List BigA) from by simp))
  obtain ⟨zd, hzd⟩ : ∃ z, sgn nd (dval ld_) = z := ⟨_, rfl⟩
  have Vd : Hid (BigV w (.agg #[.bool nd, .slice ad qd cd]) zd) := Lib.hid ⟨nd, ld_, ⟨ad, cd, by rw [HLd.out], HId.out⟩, by rw [← hzd]; exact hBd⟩
  have Vd := Lib.hid (Vd.out.ext hx)
  have Dd : Hid (zd.natAbs < 1073741824 ^ 12) := Lib.hid (abs_lt (by rw [← hzd]; exact hDd))
  have Ld : Hid (Len zd) := Lib.hid (len_lt Dd.out (by omega))
  have HC : Hid ((zd ∣ za) ∧ ¬ (zd ∣ zb)) := Lib.hid (by simp only [← hza, ← hzb, ← hzd]; exact HC.out)
  clear hBa hDa hza hBb hDb hzb hBd hDd hzd
  have hl := Ext.alloc x15 (.cells #[.bool false] 49)
  have hx := hx.trans hl
  have Ka := Lib.hid (Ka.out.ext hl)
  have Kb := Lib.hid (Kb.out.ext hl)
  have Kd := Lib.hid (Kd.out.ext hl)
  have Va := Lib.hid (Va.out.ext hl)
  have Vb := Lib.hid (Vb.out.ext hl)
  have Vd := Lib.hid (Vd.out.ext hl)
  have KC := Lib.hid (Blk.new0 x15 #[.bool false] 49)
  clear hl
  generalize x15.alloc (.cells #[.bool false] 49) = x16 at *
  generalize x15.heap.size = pc at *
  have ca0 := Ka.out.cell (i := 0) (v := .bool na) rfl
  have ca1 := Ka.out.cell (i := 1) (v := .slice aa qa ca) rfl
  have cb0 := Kb.out.cell (i := 0) (v := .bool nb) rfl
  have cb1 := Kb.out.cell (i := 1) (v := .slice ab qb cb) rfl
  go_wp2_with fail
  with_reducible refine (gcd_any Va.out Vb.out La.out Lb.out).mono ?_
  rintro e x17 ⟨v, rfl, hv, hy⟩
  have hx := hx.trans hy
  have Ka := Lib.hid (Ka.out.ext hy)
  have Kb := Lib.hid (Kb.out.ext hy)
  have Kd := Lib.hid (Kd.out.ext hy)
  have Va := Lib.hid (Va.out.ext hy)
  have Vb := Lib.hid (Vb.out.ext hy)
  have Vd := Lib.hid (Vd.out.ext hy)
  have KC := Lib.hid (KC.out.ext hy)
  clear hy
  obtain ⟨ng, ag, qg, cg, rfl⟩ := hv.form
  have Vg := Lib.hid hv
  clear hv
  have Dg := Lib.hid (gcd_lt Da.out Db.out)
  have Lg := Lib.hid (len_lt Dg.out (by omega))
  clear ca0 ca1 cb0 cb1
  go_wp2_with fail
  with_reducible refine (of_val pc KC.out Vg.out Lg.out).mono ?_
  rintro e x18 ⟨rfl, hy⟩
  have hx := hx.trans hy
  have Ka := Lib.hid (Ka.out.ext hy)
  have Kb := Lib.hid (Kb.out.ext hy)
  have Kd := Lib.hid (Kd.out.ext hy)
  have Va := Lib.hid (Va.out.ext hy)
  have Vb := Lib.hid (Vb.out.ext hy)
  have Vd := Lib.hid (Vd.out.ext hy)
  have KC := Lib.hid (KC.out.ext hy)
  have Vg := Lib.hid (Vg.out.ext hy)
  clear hy
  have hng : ng = false := Vg.out.pos (by omega)
  subst hng
  go_upto_region 8 with fail
  have hl := Ext.alloc x18 (.cells #[.bool false, .slice ag qg cg] 24)
  have hx := hx.trans hl
  have Ka := Lib.hid (Ka.out.ext hl)
  have Kb := Lib.hid (Kb.out.ext hl)
  have Kd := Lib.hid (Kd.out.ext hl)
  have Va := Lib.hid (Va.out.ext hl)
  have Vb := Lib.hid (Vb.out.ext hl)
  have Vd := Lib.hid (Vd.out.ext hl)
  have KC := Lib.hid (KC.out.ext hl)
  have Vg := Lib.hid (Vg.out.ext hl)
  have Kg := Lib.hid (Blk.new0 x18 #[.bool false, .slice ag qg cg] 24)
  clear hl
  generalize x18.alloc (.cells #[.bool false, .slice ag qg cg] 24) = x19 at *
  generalize x18.heap.size = pg at *
  have HG1 := Lib.hid (show dvdB ((Int.gcd za zb : Nat) : Int) za = true from decide_eq_true (Int.gcd_dvd_left za zb))
  have HG2 := Lib.hid (show dvdB ((Int.gcd za zb : Nat) : Int) zb = true from decide_eq_true (Int.gcd_dvd_right za zb))
  have HG3 := Lib.hid (show ((Int.gcd za zb : Nat) : Int) = ((Int.gcd zb (0 - za) : Nat) : Int) from by rw [Int.zero_sub, Int.gcd_neg, Int.gcd_comm])
  have DN := Lib.hid (show (0 - za).natAbs < 1073741824 ^ 12 from by have := Da.out; rw [Int.zero_sub, Int.natAbs_neg]; exact this)
  have LN := Lib.hid (len_lt DN.out (by omega))
  have LG2 := Lib.hid (len_lt (gcd_lt Db.out DN.out) (by omega))
  have L0 := Lib.hid (len_small (z := 0) (by decide))
  go_cut [53] (fun s53 wx => s53 = .bool false ∧ Ext x19 wx)
  case first =>
    have dc0 : x19.cell? ⟨w.heap.size, 0, none⟩ = some (.bool na) := Ka.out.cell (i := 0) rfl
    have dc1 : x19.cell? ⟨w.heap.size, 1, none⟩ = some (.slice aa qa ca) := Ka.out.cell (i := 1) rfl
    have dc2 : x19.cell? ⟨w.heap.size + 1, 0, none⟩ = some (.bool nb) := Kb.out.cell (i := 0) rfl
    have dc3 : x19.cell? ⟨w.heap.size + 1, 1, none⟩ = some (.slice ab qb cb) := Kb.out.cell (i := 1) rfl
    have dc4 : x19.cell? ⟨pg, 0, none⟩ = some (.bool false) := Kg.out.cell (i := 0) rfl
    have dc5 : x19.cell? ⟨pg, 1, none⟩ = some (.slice ag qg cg) := Kg.out.cell (i := 1) rfl
    have hE : Ext x19 x19.drew := (Ext.refl _).drew
    refine wp_region_held_drew (S := (fun w' => w'.cell? ⟨w.heap.size, 0, none⟩ = some (.bool na) ∧ w'.cell? ⟨w.heap.size, 1, none⟩ = some (.slice aa qa ca) ∧ w'.cell? ⟨w.heap.size + 1, 0, none⟩ = some (.bool nb) ∧ w'.cell? ⟨w.heap.size + 1, 1, none⟩ = some (.slice ab qb cb) ∧ w'.cell? ⟨pg, 0, none⟩ = some (.bool false) ∧ w'.cell? ⟨pg, 1, none⟩ = some (.slice ag qg cg))) (by kernel_rfl) ?_ (fun hHeld => ?_)
    · (first | exact ⟨cell_ext hy hHeld.1, cell_ext hy hHeld.2.1, cell_ext hy hHeld.2.2.1, cell_ext hy hHeld.2.2.2.1, cell_ext hy hHeld.2.2.2.2.1, cell_ext hy hHeld.2.2.2.2.2⟩ | exact ⟨dc0, dc1, dc2, dc3, dc4, dc5⟩ | exact hHeld)
    refine wpAnyH_take (i := 0) (oi := _) (v := ?_) rfl (by kernel_rfl) (by kernel_rfl) (by kernel_rfl) (fun _ _ _ h => h) (Or.inl ⟨by rfl, ?_⟩) (by assumption) ?_
    rotate_left
    · (intro w hSw; (try dsimp only at hSw); (try go_simp); (try with_reducible rfl))
    (try simp only [Act.put, List.getElem_toArray, List.getElem_cons_succ, List.getElem_cons_zero, List.setIfInBounds_toArray, List.set_cons_zero, List.set_cons_succ])
    refine wpAnyH_take (i := 1) (oi := _) (v := ?_) rfl (by kernel_rfl) (by kernel_rfl) (by kernel_rfl) (fun _ _ _ h => h) (Or.inl ⟨by rfl, ?_⟩) (by assumption) ?_
    rotate_left
    · (intro w hSw; (try dsimp only at hSw); (try go_simp); (try with_reducible rfl))
    (try simp only [Act.put, List.getElem_toArray, List.getElem_cons_succ, List.getElem_cons_zero, List.setIfInBounds_toArray, List.set_cons_zero, List.set_cons_succ])
    refine wpAnyH_take (i := 2) (oi := _) (v := ?_) rfl (by kernel_rfl) (by kernel_rfl) (by kernel_rfl) (fun _ _ _ h => h) (Or.inl ⟨by rfl, ?_⟩) (by assumption) ?_
    rotate_left
    · (intro w hSw; (try dsimp only at hSw); (try go_simp); (try with_reducible rfl))
    (try simp only [Act.put, List.getElem_toArray, List.getElem_cons_succ, List.getElem_cons_zero, List.setIfInBounds_toArray, List.set_cons_zero, List.set_cons_succ])
    refine wpAnyH_take (i := 3) (oi := _) (v := ?_) rfl (by kernel_rfl) (by kernel_rfl) (by kernel_rfl) (fun _ _ _ h => h) (Or.inl ⟨by rfl, ?_⟩) (by assumption) ?_
    rotate_left
    · (intro w hSw; (try dsimp only at hSw); (try go_simp); (try with_reducible rfl))
    (try simp only [Act.put, List.getElem_toArray, List.getElem_cons_succ, List.getElem_cons_zero, List.setIfInBounds_toArray, List.set_cons_zero, List.set_cons_succ])
    refine wpAnyH_take (i := 4) (oi := _) (v := ?_) rfl (by kernel_rfl) (by kernel_rfl) (by kernel_rfl) (fun _ _ _ h => h) (Or.inl ⟨by rfl, ?_⟩) (by assumption) ?_
    rotate_left
    · (intro w hSw; (try dsimp only at hSw); (try go_simp); (try with_reducible rfl))
    (try simp only [Act.put, List.getElem_toArray, List.getElem_cons_succ, List.getElem_cons_zero, List.setIfInBounds_toArray, List.set_cons_zero, List.set_cons_succ])
    refine wpAnyH_take (i := 5) (oi := _) (v := ?_) rfl (by kernel_rfl) (by kernel_rfl) (by kernel_rfl) (fun _ _ _ h => h) (Or.inl ⟨by rfl, ?_⟩) (by assumption) ?_
    rotate_left
    · (intro w hSw; (try dsimp only at hSw); (try go_simp); (try with_reducible rfl))
    (try simp only [Act.put, List.getElem_toArray, List.getElem_cons_succ, List.getElem_cons_zero, List.setIfInBounds_toArray, List.set_cons_zero, List.set_cons_succ])
    refine wpAnyH_ready (rs := [6]) (by kernel_rfl) (by simp) ?_
    refine AllReadyH.cons (o := _) rfl (fun K hK => ?_) ?_
    · go_simp
      (with_reducible refine (law_divides (Vg.out.ext hE) (Va.out.ext hE) Lg.out La.out).mono ?_); rintro e y1 ⟨rfl, hy⟩; rw [HG1.out]; have hE := hE.trans hy
      refine hK.out _ _ ?_ (fun hHeld2 => ?_)
      · (first | exact ⟨cell_ext hy hHeld.1, cell_ext hy hHeld.2.1, cell_ext hy hHeld.2.2.1, cell_ext hy hHeld.2.2.2.1, cell_ext hy hHeld.2.2.2.2.1, cell_ext hy hHeld.2.2.2.2.2⟩ | exact ⟨dc0, dc1, dc2, dc3, dc4, dc5⟩ | exact hHeld)
      clear hK K hHeld
      have hHeld := hHeld2
      clear hHeld2
      (try simp only [Act.put, List.getElem_toArray, List.getElem_cons_succ, List.getElem_cons_zero, List.setIfInBounds_toArray, List.set_cons_zero, List.set_cons_succ])
      refine wpAnyH_take (i := 7) (oi := _) (v := ?_) rfl (by kernel_rfl) (by kernel_rfl) (by kernel_rfl) (fun _ _ _ h => h) (Or.inl ⟨by rfl, ?_⟩) (by assumption) ?_
      rotate_left
      · (intro w hSw; (try dsimp only at hSw); (try go_simp); (try with_reducible rfl))
      (try simp only [Act.put, List.getElem_toArray, List.getElem_cons_succ, List.getElem_cons_zero, List.setIfInBounds_toArray, List.set_cons_zero, List.set_cons_succ])
      refine wpAnyH_take (i := 8) (oi := _) (v := ?_) rfl (by kernel_rfl) (by kernel_rfl) (by kernel_rfl) (fun _ _ _ h => h) (Or.inl ⟨by rfl, ?_⟩) (by assumption) ?_
      rotate_left
      · (intro w hSw; (try dsimp only at hSw); (try go_simp); (try with_reducible rfl))
      (try simp only [Act.put, List.getElem_toArray, List.getElem_cons_succ, List.getElem_cons_zero, List.setIfInBounds_toArray, List.set_cons_zero, List.set_cons_succ])
      refine wpAnyH_take (i := 9) (oi := _) (v := ?_) rfl (by kernel_rfl) (by kernel_rfl) (by kernel_rfl) (fun _ _ _ h => h) (Or.inl ⟨by rfl, ?_⟩) (by assumption) ?_
      rotate_left
      · (intro w hSw; (try dsimp only at hSw); (try go_simp); (try with_reducible rfl))
      (try simp only [Act.put, List.getElem_toArray, List.getElem_cons_succ, List.getElem_cons_zero, List.setIfInBounds_toArray, List.set_cons_zero, List.set_cons_succ])
      refine wpAnyH_take (i := 10) (oi := _) (v := ?_) rfl (by kernel_rfl) (by kernel_rfl) (by kernel_rfl) (fun _ _ _ h => h) (Or.inl ⟨by rfl, ?_⟩) (by assumption) ?_
      rotate_left
      · (intro w hSw; (try dsimp only at hSw); (try go_simp); (try with_reducible rfl))
      (try simp only [Act.put, List.getElem_toArray, List.getElem_cons_succ, List.getElem_cons_zero, List.setIfInBounds_toArray, List.set_cons_zero, List.set_cons_succ])
      refine wpAnyH_take (i := 11) (oi := _) (v := ?_) rfl (by kernel_rfl) (by kernel_rfl) (by kernel_rfl) (fun _ _ _ h => h) (Or.inl ⟨by rfl, ?_⟩) (by assumption) ?_
      rotate_left
      · (intro w hSw; (try dsimp only at hSw); (try go_simp); (try with_reducible rfl))
      (try simp only [Act.put, List.getElem_toArray, List.getElem_cons_succ, List.getElem_cons_zero, List.setIfInBounds_toArray, List.set_cons_zero, List.set_cons_succ])
      refine wpAnyH_take (i := 12) (oi := _) (v := ?_) rfl (by kernel_rfl) (by kernel_rfl) (by kernel_rfl) (fun _ _ _ h => h) (Or.inl ⟨by rfl, ?_⟩) (by assumption) ?_
      rotate_left
      · (intro w hSw; (try dsimp only at hSw); (try go_simp); (try with_reducible rfl))
      (try simp only [Act.put, List.getElem_toArray, List.getElem_cons_succ, List.getElem_cons_zero, List.setIfInBounds_toArray, List.set_cons_zero, List.set_cons_succ])
      refine wpAnyH_ready (rs := [13]) (by kernel_rfl) (by simp) ?_
      refine AllReadyH.cons (o := _) rfl (fun K hK => ?_) ?_
      · go_simp
        (with_reducible refine (law_divides (Vg.out.ext hE) (Vb.out.ext hE) Lg.out Lb.out).mono ?_); rintro e y2 ⟨rfl, hy⟩; rw [HG2.out]; have hE := hE.trans hy
        refine hK.out _ _ ?_ (fun hHeld2 => ?_)
        · (first | exact ⟨cell_ext hy hHeld.1, cell_ext hy hHeld.2.1, cell_ext hy hHeld.2.2.1, cell_ext hy hHeld.2.2.2.1, cell_ext hy hHeld.2.2.2.2.1, cell_ext hy hHeld.2.2.2.2.2⟩ | exact ⟨dc0, dc1, dc2, dc3, dc4, dc5⟩ | exact hHeld)
        clear hK K hHeld
        have hHeld := hHeld2
        clear hHeld2
        (try simp only [Act.put, List.getElem_toArray, List.getElem_cons_succ, List.getElem_cons_zero, List.setIfInBounds_toArray, List.set_cons_zero, List.set_cons_succ])
        refine wpAnyH_take (i := 14) (oi := _) (v := ?_) rfl (by kernel_rfl) (by kernel_rfl) (by kernel_rfl) (fun _ _ _ h => h) (Or.inl ⟨by rfl, ?_⟩) (by assumption) ?_
        rotate_left
        · (intro w hSw; (try dsimp only at hSw); (try go_simp); (try with_reducible rfl))
        (try simp only [Act.put, List.getElem_toArray, List.getElem_cons_succ, List.getElem_cons_zero, List.setIfInBounds_toArray, List.set_cons_zero, List.set_cons_succ])
        refine wpAnyH_take (i := 15) (oi := _) (v := ?_) rfl (by kernel_rfl) (by kernel_rfl) (by kernel_rfl) (fun _ _ _ h => h) (Or.inl ⟨by rfl, ?_⟩) (by assumption) ?_
        rotate_left
        · (intro w hSw; (try dsimp only at hSw); (try go_simp); (try with_reducible rfl))
        (try simp only [Act.put, List.getElem_toArray, List.getElem_cons_succ, List.getElem_cons_zero, List.setIfInBounds_toArray, List.set_cons_zero, List.set_cons_succ])
        refine wpAnyH_take (i := 16) (oi := _) (v := ?_) rfl (by kernel_rfl) (by kernel_rfl) (by kernel_rfl) (fun _ _ _ h => h) (Or.inl ⟨by rfl, ?_⟩) (by assumption) ?_
        rotate_left
        · (intro w hSw; (try dsimp only at hSw); (try go_simp); (try with_reducible rfl))
        (try simp only [Act.put, List.getElem_toArray, List.getElem_cons_succ, List.getElem_cons_zero, List.setIfInBounds_toArray, List.set_cons_zero, List.set_cons_succ])
        refine wpAnyH_take (i := 17) (oi := _) (v := ?_) rfl (by kernel_rfl) (by kernel_rfl) (by kernel_rfl) (fun _ _ _ h => h) (Or.inl ⟨by rfl, ?_⟩) (by assumption) ?_
        rotate_left
        · (intro w hSw; (try dsimp only at hSw); (try go_simp); (try with_reducible rfl))
        (try simp only [Act.put, List.getElem_toArray, List.getElem_cons_succ, List.getElem_cons_zero, List.setIfInBounds_toArray, List.set_cons_zero, List.set_cons_succ])
        refine wpAnyH_take (i := 18) (oi := _) (v := ?_) rfl (by kernel_rfl) (by kernel_rfl) (by kernel_rfl) (fun _ _ _ h => h) (Or.inl ⟨by rfl, ?_⟩) (by assumption) ?_
        rotate_left
        · (intro w hSw; (try dsimp only at hSw); (try go_simp); (try with_reducible rfl))
        (try simp only [Act.put, List.getElem_toArray, List.getElem_cons_succ, List.getElem_cons_zero, List.setIfInBounds_toArray, List.set_cons_zero, List.set_cons_succ])
        refine wpAnyH_take (i := 19) (oi := _) (v := ?_) rfl (by kernel_rfl) (by kernel_rfl) (by kernel_rfl) (fun _ _ _ h => h) (Or.inl ⟨by rfl, ?_⟩) (by assumption) ?_
        rotate_left
        · (intro w hSw; (try dsimp only at hSw); (try go_simp); (try with_reducible rfl))
        (try simp only [Act.put, List.getElem_toArray, List.getElem_cons_succ, List.getElem_cons_zero, List.setIfInBounds_toArray, List.set_cons_zero, List.set_cons_succ])
        refine wpAnyH_take (i := 20) (oi := _) (v := ?_) rfl (by kernel_rfl) (by kernel_rfl) (by kernel_rfl) (fun _ _ _ h => h) (Or.inl ⟨by rfl, ?_⟩) (by assumption) ?_
        rotate_left
        · (intro w hSw; (try dsimp only at hSw); (try go_simp); (try with_reducible rfl))
        (try simp only [Act.put, List.getElem_toArray, List.getElem_cons_succ, List.getElem_cons_zero, List.setIfInBounds_toArray, List.set_cons_zero, List.set_cons_succ])
        refine wpAnyH_ready (rs := [21]) (by kernel_rfl) (by simp) ?_
        refine AllReadyH.cons (o := _) rfl (fun K hK => ?_) ?_
        · go_simp
          (with_reducible refine (calc_sub pc _ (KC.out.ext hE) (BigV.zero _) (Va.out.ext hE) L0.out La.out LN.out).mono ?_); rintro e y3 ⟨v3, rfl, hv3, hy⟩; have hE := hE.trans hy
          refine hK.out _ _ ?_ (fun hHeld2 => ?_)
          · (first | exact ⟨cell_ext hy hHeld.1, cell_ext hy hHeld.2.1, cell_ext hy hHeld.2.2.1, cell_ext hy hHeld.2.2.2.1, cell_ext hy hHeld.2.2.2.2.1, cell_ext hy hHeld.2.2.2.2.2⟩ | exact ⟨dc0, dc1, dc2, dc3, dc4, dc5⟩ | exact hHeld)
          clear hK K hHeld
          have hHeld := hHeld2
          clear hHeld2
          (try simp only [Act.put, List.getElem_toArray, List.getElem_cons_succ, List.getElem_cons_zero, List.setIfInBounds_toArray, List.set_cons_zero, List.set_cons_succ])
          refine wpAnyH_ready (rs := [22]) (by kernel_rfl) (by simp) ?_
          refine AllReadyH.cons (o := _) rfl (fun K hK => ?_) ?_
          · go_simp
            (with_reducible refine (gcd_any (Vb.out.ext hE) hv3.val Lb.out LN.out).mono ?_); rintro e y4 ⟨v4, rfl, hv4, hy⟩; have hE := hE.trans hy
            refine hK.out _ _ ?_ (fun hHeld2 => ?_)
            · (first | exact ⟨cell_ext hy hHeld.1, cell_ext hy hHeld.2.1, cell_ext hy hHeld.2.2.1, cell_ext hy hHeld.2.2.2.1, cell_ext hy hHeld.2.2.2.2.1, cell_ext hy hHeld.2.2.2.2.2⟩ | exact ⟨dc0, dc1, dc2, dc3, dc4, dc5⟩ | exact hHeld)
            clear hK K hHeld
            have hHeld := hHeld2
            clear hHeld2
            (try simp only [Act.put, List.getElem_toArray, List.getElem_cons_succ, List.getElem_cons_zero, List.setIfInBounds_toArray, List.set_cons_zero, List.set_cons_succ])
            refine wpAnyH_take (i := 23) (oi := _) (v := ?_) rfl (by kernel_rfl) (by kernel_rfl) (by kernel_rfl) (fun _ _ _ h => h) (Or.inl ⟨by rfl, ?_⟩) (by assumption) ?_
            rotate_left
            · (intro w hSw; (try dsimp only at hSw); (try go_simp); (try with_reducible rfl))
            (try simp only [Act.put, List.getElem_toArray, List.getElem_cons_succ, List.getElem_cons_zero, List.setIfInBounds_toArray, List.set_cons_zero, List.set_cons_succ])
            refine wpAnyH_take (i := 24) (oi := _) (v := ?_) rfl (by kernel_rfl) (by kernel_rfl) (by kernel_rfl) (fun _ _ _ h => h) (Or.inl ⟨by rfl, ?_⟩) (by assumption) ?_
            rotate_left
            · (intro w hSw; (try dsimp only at hSw); (try go_simp); (try with_reducible rfl))
            (try simp only [Act.put, List.getElem_toArray, List.getElem_cons_succ, List.getElem_cons_zero, List.setIfInBounds_toArray, List.set_cons_zero, List.set_cons_succ])
            refine wpAnyH_ready (rs := [25]) (by kernel_rfl) (by simp) ?_
            refine AllReadyH.cons (o := _) rfl (fun K hK => ?_) ?_
            · go_simp
              (with_reducible refine (of_val pc (KC.out.ext hE) hv4 LG2.out).mono ?_); rintro e y5 ⟨rfl, hy⟩; have hv4 := hv4.ext hy; have hE := hE.trans hy
              refine hK.out _ _ ?_ (fun hHeld2 => ?_)
              · (first | exact ⟨cell_ext hy hHeld.1, cell_ext hy hHeld.2.1, cell_ext hy hHeld.2.2.1, cell_ext hy hHeld.2.2.2.1, cell_ext hy hHeld.2.2.2.2.1, cell_ext hy hHeld.2.2.2.2.2⟩ | exact ⟨dc0, dc1, dc2, dc3, dc4, dc5⟩ | exact hHeld)
              clear hK K hHeld
              have hHeld := hHeld2
              clear hHeld2
              (try simp only [Act.put, List.getElem_toArray, List.getElem_cons_succ, List.getElem_cons_zero, List.setIfInBounds_toArray, List.set_cons_zero, List.set_cons_succ])
              refine wpAnyH_ready (rs := [26]) (by kernel_rfl) (by simp) ?_
              refine AllReadyH.cons (o := _) rfl (fun K hK => ?_) ?_
              · go_simp
                (with_reducible refine (sameT (Vg.out.ext hE) hv4 HG3.out).mono ?_); rintro e y6 ⟨rfl, hy⟩; have hE := hE.trans hy
                refine hK.out _ _ ?_ (fun hHeld2 => ?_)
                · (first | exact ⟨cell_ext hy hHeld.1, cell_ext hy hHeld.2.1, cell_ext hy hHeld.2.2.1, cell_ext hy hHeld.2.2.2.1, cell_ext hy hHeld.2.2.2.2.1, cell_ext hy hHeld.2.2.2.2.2⟩ | exact ⟨dc0, dc1, dc2, dc3, dc4, dc5⟩ | exact hHeld)
                clear hK K hHeld
                have hHeld := hHeld2
                clear hHeld2
                (try simp only [Act.put, List.getElem_toArray, List.getElem_cons_succ, List.getElem_cons_zero, List.setIfInBounds_toArray, List.set_cons_zero, List.set_cons_succ])
                refine wpAnyH_take (i := 27) (oi := _) (v := ?_) rfl (by kernel_rfl) (by kernel_rfl) (by kernel_rfl) (fun _ _ _ h => h) (Or.inl ⟨by rfl, ?_⟩) (by assumption) ?_
                rotate_left
                · (intro w hSw; (try dsimp only at hSw); (try go_simp); (try with_reducible rfl))
                (try simp only [Act.put, List.getElem_toArray, List.getElem_cons_succ, List.getElem_cons_zero, List.setIfInBounds_toArray, List.set_cons_zero, List.set_cons_succ])
                refine wpAnyH_take (i := 28) (oi := _) (v := ?_) rfl (by kernel_rfl) (by kernel_rfl) (by kernel_rfl) (fun _ _ _ h => h) (Or.inl ⟨by rfl, ?_⟩) (by assumption) ?_
                rotate_left
                · (intro w hSw; (try dsimp only at hSw); (try go_simp); (try with_reducible rfl))
                (try simp only [Act.put, List.getElem_toArray, List.getElem_cons_succ, List.getElem_cons_zero, List.setIfInBounds_toArray, List.set_cons_zero, List.set_cons_succ])
                refine wpAnyH_done (by kernel_rfl) ?_ _
                (go_wp2_with fail; go_meet; exact ⟨rfl, hE⟩)
              exact AllReadyH.nil
            exact AllReadyH.nil
          exact AllReadyH.nil
        exact AllReadyH.nil
      exact AllReadyH.nil
    exact AllReadyH.nil
  case rest =>
  obtain ⟨rfl, hy⟩ := hcut
  have hx := hx.trans hy
  have Ka := Lib.hid (Ka.out.ext hy)
  have Kb := Lib.hid (Kb.out.ext hy)
  have Kd := Lib.hid (Kd.out.ext hy)
  have Va := Lib.hid (Va.out.ext hy)
  have Vb := Lib.hid (Vb.out.ext hy)
  have Vd := Lib.hid (Vd.out.ext hy)
  have KC := Lib.hid (KC.out.ext hy)
  have Vg := Lib.hid (Vg.out.ext hy)
  have Kg := Lib.hid (Kg.out.ext hy)
  clear hy HG1 HG2 HG3 DN LN LG2
  have HCA := Lib.hid (show dvdB zd za = true from decide_eq_true HC.out.1)
  have HCB := Lib.hid (show dvdB zd zb = false from decide_eq_false HC.out.2)
  have cd0 := Kd.out.cell (i := 0) (v := .bool nd) rfl
  have cd1 := Kd.out.cell (i := 1) (v := .slice ad qd cd) rfl
  have ca0 := Ka.out.cell (i := 0) (v := .bool na) rfl
  have ca1 := Ka.out.cell (i := 1) (v := .slice aa qa ca) rfl
  go_wp2_with fail
  with_reducible refine (divT Vd.out Va.out Ld.out La.out HCA.out).mono ?_
  rintro e x20 ⟨rfl, hy⟩
  have hx := hx.trans hy
  have Ka := Lib.hid (Ka.out.ext hy)
  have Kb := Lib.hid (Kb.out.ext hy)
  have Kd := Lib.hid (Kd.out.ext hy)
  have Va := Lib.hid (Va.out.ext hy)
  have Vb := Lib.hid (Vb.out.ext hy)
  have Vd := Lib.hid (Vd.out.ext hy)
  have KC := Lib.hid (KC.out.ext hy)
  have Vg := Lib.hid (Vg.out.ext hy)
  have Kg := Lib.hid (Kg.out.ext hy)
  clear hy
  clear cd0 cd1 ca0 ca1
  have cd0 := Kd.out.cell (i := 0) (v := .bool nd) rfl
  have cd1 := Kd.out.cell (i := 1) (v := .slice ad qd cd) rfl
  have cb0 := Kb.out.cell (i := 0) (v := .bool nb) rfl
  have cb1 := Kb.out.cell (i := 1) (v := .slice ab qb cb) rfl
  go_wp2_with fail
  with_reducible refine (divT Vd.out Vb.out Ld.out Lb.out HCB.out).mono ?_
  rintro e x21 ⟨rfl, hy⟩
  have hx := hx.trans hy
  have Ka := Lib.hid (Ka.out.ext hy)
  have Kb := Lib.hid (Kb.out.ext hy)
  have Kd := Lib.hid (Kd.out.ext hy)
  have Va := Lib.hid (Va.out.ext hy)
  have Vb := Lib.hid (Vb.out.ext hy)
  have Vd := Lib.hid (Vd.out.ext hy)
  have KC := Lib.hid (KC.out.ext hy)
  have Vg := Lib.hid (Vg.out.ext hy)
  have Kg := Lib.hid (Kg.out.ext hy)
  clear hy
  clear cd0 cd1 cb0 cb1
  have cd0 := Kd.out.cell (i := 0) (v := .bool nd) rfl
  have cd1 := Kd.out.cell (i := 1) (v := .slice ad qd cd) rfl
  go_upto_region 14 with fail
  have hl := Ext.alloc x21 (.cells #[.bool false, .slice ad qd cd] 24)
  have hx := hx.trans hl
  have Ka := Lib.hid (Ka.out.ext hl)
  have Kb := Lib.hid (Kb.out.ext hl)
  have Kd := Lib.hid (Kd.out.ext hl)
  have Va := Lib.hid (Va.out.ext hl)
  have Vb := Lib.hid (Vb.out.ext hl)
  have Vd := Lib.hid (Vd.out.ext hl)
  have KC := Lib.hid (KC.out.ext hl)
  have Vg := Lib.hid (Vg.out.ext hl)
  have Kg := Lib.hid (Kg.out.ext hl)
  have Ks := Lib.hid (Blk.new0 x21 #[.bool false, .slice ad qd cd] 24)
  clear hl cd0 cd1
  generalize x21.alloc (.cells #[.bool false, .slice ad qd cd] 24) = x22 at *
  generalize x21.heap.size = ps at *
  have Vs := Lib.hid Vd.out.abs
  have Ds : Hid ((zd.natAbs : Int).natAbs < 1073741824 ^ 12) := Lib.hid (by rw [Int.natAbs_natCast]; exact Dd.out)
  have Ls := Lib.hid (len_lt Ds.out (by omega))
  have D1 := Lib.hid (mul_lt Da.out Dd.out)
  have D2 := Lib.hid (mul_lt Db.out Dd.out)
  have D3 := Lib.hid (mul_lt Dg.out Ds.out)
  have L1 := Lib.hid (len_lt D1.out (by omega))
  have L2 := Lib.hid (len_lt D2.out (by omega))
  have L3 := Lib.hid (len_lt D3.out (by omega))
  have L4 := Lib.hid (len_lt (gcd_lt D1.out D2.out) (by omega))
  have HE := Lib.hid (show ((Int.gcd (za * zd) (zb * zd) : Nat) : Int) = ((Int.gcd za zb : Nat) : Int) * (zd.natAbs : Int) from by rw [Int.gcd_mul_right]; exact Int.natCast_mul _ _)
  have dc0 : x22.cell? ⟨w.heap.size, 0, none⟩ = some (.bool na) := Ka.out.cell (i := 0) rfl
  have dc1 : x22.cell? ⟨w.heap.size, 1, none⟩ = some (.slice aa qa ca) := Ka.out.cell (i := 1) rfl
  have dc2 : x22.cell? ⟨w.heap.size + 1, 0, none⟩ = some (.bool nb) := Kb.out.cell (i := 0) rfl
  have dc3 : x22.cell? ⟨w.heap.size + 1, 1, none⟩ = some (.slice ab qb cb) := Kb.out.cell (i := 1) rfl
  have dc4 : x22.cell? ⟨w.heap.size + 2, 0, none⟩ = some (.bool nd) := Kd.out.cell (i := 0) rfl
  have dc5 : x22.cell? ⟨w.heap.size + 2, 1, none⟩ = some (.slice ad qd cd) := Kd.out.cell (i := 1) rfl
  have dc6 : x22.cell? ⟨pg, 0, none⟩ = some (.bool false) := Kg.out.cell (i := 0) rfl
  have dc7 : x22.cell? ⟨pg, 1, none⟩ = some (.slice ag qg cg) := Kg.out.cell (i := 1) rfl
  have dc8 : x22.cell? ⟨ps, 0, none⟩ = some (.bool false) := Ks.out.cell (i := 0) rfl
  have dc9 : x22.cell? ⟨ps, 1, none⟩ = some (.slice ad qd cd) := Ks.out.cell (i := 1) rfl
  have dc10 : x22.cell? ⟨pc, 0, none⟩ = some (.bool false) := KC.out.cell (i := 0) rfl
  have hE : Ext x22 x22.drew := (Ext.refl _).drew
  refine wp_region_held_drew (S := (fun w' => w'.cell? ⟨w.heap.size, 0, none⟩ = some (.bool na) ∧ w'.cell? ⟨w.heap.size, 1, none⟩ = some (.slice aa qa ca) ∧ w'.cell? ⟨w.heap.size + 1, 0, none⟩ = some (.bool nb) ∧ w'.cell? ⟨w.heap.size + 1, 1, none⟩ = some (.slice ab qb cb) ∧ w'.cell? ⟨w.heap.size + 2, 0, none⟩ = some (.bool nd) ∧ w'.cell? ⟨w.heap.size + 2, 1, none⟩ = some (.slice ad qd cd) ∧ w'.cell? ⟨pg, 0, none⟩ = some (.bool false) ∧ w'.cell? ⟨pg, 1, none⟩ = some (.slice ag qg cg) ∧ w'.cell? ⟨ps, 0, none⟩ = some (.bool false) ∧ w'.cell? ⟨ps, 1, none⟩ = some (.slice ad qd cd) ∧ w'.cell? ⟨pc, 0, none⟩ = some (.bool false))) (by kernel_rfl) ?_ (fun hHeld => ?_)
  · (first | exact ⟨cell_ext hy hHeld.1, cell_ext hy hHeld.2.1, cell_ext hy hHeld.2.2.1, cell_ext hy hHeld.2.2.2.1, cell_ext hy hHeld.2.2.2.2.1, cell_ext hy hHeld.2.2.2.2.2.1, cell_ext hy hHeld.2.2.2.2.2.2.1, cell_ext hy hHeld.2.2.2.2.2.2.2.1, cell_ext hy hHeld.2.2.2.2.2.2.2.2.1, cell_ext hy hHeld.2.2.2.2.2.2.2.2.2.1, cell_ext hy hHeld.2.2.2.2.2.2.2.2.2.2⟩ | exact ⟨dc0, dc1, dc2, dc3, dc4, dc5, dc6, dc7, dc8, dc9, dc10⟩ | exact hHeld)
  refine wpAnyH_take (i := 0) (oi := _) (v := ?_) rfl (by kernel_rfl) (by kernel_rfl) (by kernel_rfl) (fun _ _ _ h => h) (Or.inl ⟨by rfl, ?_⟩) (by assumption) ?_
  rotate_left
  · (intro w hSw; (try dsimp only at hSw); (try go_simp); (try with_reducible rfl))
  (try simp only [Act.put, List.getElem_toArray, List.getElem_cons_succ, List.getElem_cons_zero, List.setIfInBounds_toArray, List.set_cons_zero, List.set_cons_succ])
  refine wpAnyH_take (i := 1) (oi := _) (v := ?_) rfl (by kernel_rfl) (by kernel_rfl) (by kernel_rfl) (fun _ _ _ h => h) (Or.inl ⟨by rfl, ?_⟩) (by assumption) ?_
  rotate_left
  · (intro w hSw; (try dsimp only at hSw); (try go_simp); (try with_reducible rfl))
  (try simp only [Act.put, List.getElem_toArray, List.getElem_cons_succ, List.getElem_cons_zero, List.setIfInBounds_toArray, List.set_cons_zero, List.set_cons_succ])
  refine wpAnyH_take (i := 3) (oi := _) (v := ?_) rfl (by kernel_rfl) (by kernel_rfl) (by kernel_rfl) (fun _ _ _ h => h) (Or.inl ⟨by rfl, ?_⟩) (by assumption) ?_
  rotate_left
  · (intro w hSw; (try dsimp only at hSw); (try go_simp); (try with_reducible rfl))
  (try simp only [Act.put, List.getElem_toArray, List.getElem_cons_succ, List.getElem_cons_zero, List.setIfInBounds_toArray, List.set_cons_zero, List.set_cons_succ])
  refine wpAnyH_take (i := 4) (oi := _) (v := ?_) rfl (by kernel_rfl) (by kernel_rfl) (by kernel_rfl) (fun _ _ _ h => h) (Or.inl ⟨by rfl, ?_⟩) (by assumption) ?_
  rotate_left
  · (intro w hSw; (try dsimp only at hSw); (try go_simp); (try with_reducible rfl))
  (try simp only [Act.put, List.getElem_toArray, List.getElem_cons_succ, List.getElem_cons_zero, List.setIfInBounds_toArray, List.set_cons_zero, List.set_cons_succ])
  refine wpAnyH_take (i := 10) (oi := _) (v := ?_) rfl (by kernel_rfl) (by kernel_rfl) (by kernel_rfl) (fun _ _ _ h => h) (Or.inl ⟨by rfl, ?_⟩) (by assumption) ?_
  rotate_left
  · (intro w hSw; (try dsimp only at hSw); (try go_simp); (try with_reducible rfl))
  (try simp only [Act.put, List.getElem_toArray, List.getElem_cons_succ, List.getElem_cons_zero, List.setIfInBounds_toArray, List.set_cons_zero, List.set_cons_succ])
  refine wpAnyH_take (i := 11) (oi := _) (v := ?_) rfl (by kernel_rfl) (by kernel_rfl) (by kernel_rfl) (fun _ _ _ h => h) (Or.inl ⟨by rfl, ?_⟩) (by assumption) ?_
  rotate_left
  · (intro w hSw; (try dsimp only at hSw); (try go_simp); (try with_reducible rfl))
  (try simp only [Act.put, List.getElem_toArray, List.getElem_cons_succ, List.getElem_cons_zero, List.setIfInBounds_toArray, List.set_cons_zero, List.set_cons_succ])
  refine wpAnyH_ready (rs := [2]) (by kernel_rfl) (by simp) ?_
  refine AllReadyH.cons (o := _) rfl (fun K hK => ?_) ?_
  · go_simp
    (with_reducible refine (calc_mul pc _ (KC.out.ext hE) (Va.out.ext hE) (Vd.out.ext hE) La.out Ld.out L1.out).mono ?_); rintro e y1 ⟨v1, rfl, hv1, hy⟩; have hv1 := hv1.val; have hE := hE.trans hy
    refine hK.out _ _ ?_ (fun hHeld2 => ?_)
    · (first | exact ⟨cell_ext hy hHeld.1, cell_ext hy hHeld.2.1, cell_ext hy hHeld.2.2.1, cell_ext hy hHeld.2.2.2.1, cell_ext hy hHeld.2.2.2.2.1, cell_ext hy hHeld.2.2.2.2.2.1, cell_ext hy hHeld.2.2.2.2.2.2.1, cell_ext hy hHeld.2.2.2.2.2.2.2.1, cell_ext hy hHeld.2.2.2.2.2.2.2.2.1, cell_ext hy hHeld.2.2.2.2.2.2.2.2.2.1, cell_ext hy hHeld.2.2.2.2.2.2.2.2.2.2⟩ | exact ⟨dc0, dc1, dc2, dc3, dc4, dc5, dc6, dc7, dc8, dc9, dc10⟩ | exact hHeld)
    clear hK K hHeld
    have hHeld := hHeld2
    clear hHeld2
    (try simp only [Act.put, List.getElem_toArray, List.getElem_cons_succ, List.getElem_cons_zero, List.setIfInBounds_toArray, List.set_cons_zero, List.set_cons_succ])
    refine wpAnyH_ready (rs := [5]) (by kernel_rfl) (by simp) ?_
    refine AllReadyH.cons (o := _) rfl (fun K hK => ?_) ?_
    · go_simp
      (with_reducible refine (calc_mul pc _ (KC.out.ext hE) (Vb.out.ext hE) (Vd.out.ext hE) Lb.out Ld.out L2.out).mono ?_); rintro e y2 ⟨v2, rfl, hv2, hy⟩; have hv1 := hv1.ext hy; have hv2 := hv2.val; have hE := hE.trans hy
      refine hK.out _ _ ?_ (fun hHeld2 => ?_)
      · (first | exact ⟨cell_ext hy hHeld.1, cell_ext hy hHeld.2.1, cell_ext hy hHeld.2.2.1, cell_ext hy hHeld.2.2.2.1, cell_ext hy hHeld.2.2.2.2.1, cell_ext hy hHeld.2.2.2.2.2.1, cell_ext hy hHeld.2.2.2.2.2.2.1, cell_ext hy hHeld.2.2.2.2.2.2.2.1, cell_ext hy hHeld.2.2.2.2.2.2.2.2.1, cell_ext hy hHeld.2.2.2.2.2.2.2.2.2.1, cell_ext hy hHeld.2.2.2.2.2.2.2.2.2.2⟩ | exact ⟨dc0, dc1, dc2, dc3, dc4, dc5, dc6, dc7, dc8, dc9, dc10⟩ | exact hHeld)
      clear hK K hHeld
      have hHeld := hHeld2
      clear hHeld2
      (try simp only [Act.put, List.getElem_toArray, List.getElem_cons_succ, List.getElem_cons_zero, List.setIfInBounds_toArray, List.set_cons_zero, List.set_cons_succ])
      refine wpAnyH_ready (rs := [6]) (by kernel_rfl) (by simp) ?_
      refine AllReadyH.cons (o := _) rfl (fun K hK => ?_) ?_
      · go_simp
        (with_reducible refine (gcd_any hv1 hv2 L1.out L2.out).mono ?_); rintro e y3 ⟨v3, rfl, hv3, hy⟩; have hE := hE.trans hy
        refine hK.out _ _ ?_ (fun hHeld2 => ?_)
        · (first | exact ⟨cell_ext hy hHeld.1, cell_ext hy hHeld.2.1, cell_ext hy hHeld.2.2.1, cell_ext hy hHeld.2.2.2.1, cell_ext hy hHeld.2.2.2.2.1, cell_ext hy hHeld.2.2.2.2.2.1, cell_ext hy hHeld.2.2.2.2.2.2.1, cell_ext hy hHeld.2.2.2.2.2.2.2.1, cell_ext hy hHeld.2.2.2.2.2.2.2.2.1, cell_ext hy hHeld.2.2.2.2.2.2.2.2.2.1, cell_ext hy hHeld.2.2.2.2.2.2.2.2.2.2⟩ | exact ⟨dc0, dc1, dc2, dc3, dc4, dc5, dc6, dc7, dc8, dc9, dc10⟩ | exact hHeld)
        clear hK K hHeld
        have hHeld := hHeld2
        clear hHeld2
        (try simp only [Act.put, List.getElem_toArray, List.getElem_cons_succ, List.getElem_cons_zero, List.setIfInBounds_toArray, List.set_cons_zero, List.set_cons_succ])
        refine wpAnyH_take (i := 7) (oi := _) (v := ?_) rfl (by kernel_rfl) (by kernel_rfl) (by kernel_rfl) (fun _ _ _ h => h) (Or.inl ⟨by rfl, ?_⟩) (by assumption) ?_
        rotate_left
        · (intro w hSw; (try dsimp only at hSw); (try go_simp); (try with_reducible rfl))
        (try simp only [Act.put, List.getElem_toArray, List.getElem_cons_succ, List.getElem_cons_zero, List.setIfInBounds_toArray, List.set_cons_zero, List.set_cons_succ])
        refine wpAnyH_take (i := 8) (oi := _) (v := ?_) rfl (by kernel_rfl) (by kernel_rfl) (by kernel_rfl) (fun _ _ _ h => h) (Or.inl ⟨by rfl, ?_⟩) (by assumption) ?_
        rotate_left
        · (intro w hSw; (try dsimp only at hSw); (try go_simp); (try with_reducible rfl))
        (try simp only [Act.put, List.getElem_toArray, List.getElem_cons_succ, List.getElem_cons_zero, List.setIfInBounds_toArray, List.set_cons_zero, List.set_cons_succ])
        refine wpAnyH_ready (rs := [9]) (by kernel_rfl) (by simp) ?_
        refine AllReadyH.cons (o := _) rfl (fun K hK => ?_) ?_
        · go_simp
          (with_reducible refine (of_val pc (KC.out.ext hE) hv3 L4.out).mono ?_); rintro e y4 ⟨rfl, hy⟩; have hv3 := hv3.ext hy; have hE := hE.trans hy
          refine hK.out _ _ ?_ (fun hHeld2 => ?_)
          · (first | exact ⟨cell_ext hy hHeld.1, cell_ext hy hHeld.2.1, cell_ext hy hHeld.2.2.1, cell_ext hy hHeld.2.2.2.1, cell_ext hy hHeld.2.2.2.2.1, cell_ext hy hHeld.2.2.2.2.2.1, cell_ext hy hHeld.2.2.2.2.2.2.1, cell_ext hy hHeld.2.2.2.2.2.2.2.1, cell_ext hy hHeld.2.2.2.2.2.2.2.2.1, cell_ext hy hHeld.2.2.2.2.2.2.2.2.2.1, cell_ext hy hHeld.2.2.2.2.2.2.2.2.2.2⟩ | exact ⟨dc0, dc1, dc2, dc3, dc4, dc5, dc6, dc7, dc8, dc9, dc10⟩ | exact hHeld)
          clear hK K hHeld
          have hHeld := hHeld2
          clear hHeld2
          (try simp only [Act.put, List.getElem_toArray, List.getElem_cons_succ, List.getElem_cons_zero, List.setIfInBounds_toArray, List.set_cons_zero, List.set_cons_succ])
          refine wpAnyH_ready (rs := [12]) (by kernel_rfl) (by simp) ?_
          refine AllReadyH.cons (o := _) rfl (fun K hK => ?_) ?_
          · go_simp
            (with_reducible refine (calc_mul pc _ (KC.out.ext hE) (Vg.out.ext hE) (Vs.out.ext hE) Lg.out Ls.out L3.out).mono ?_); rintro e y5 ⟨v5, rfl, hv5, hy⟩; have hv3 := hv3.ext hy; have hv5 := hv5.val; have hE := hE.trans hy
            refine hK.out _ _ ?_ (fun hHeld2 => ?_)
            · (first | exact ⟨cell_ext hy hHeld.1, cell_ext hy hHeld.2.1, cell_ext hy hHeld.2.2.1, cell_ext hy hHeld.2.2.2.1, cell_ext hy hHeld.2.2.2.2.1, cell_ext hy hHeld.2.2.2.2.2.1, cell_ext hy hHeld.2.2.2.2.2.2.1, cell_ext hy hHeld.2.2.2.2.2.2.2.1, cell_ext hy hHeld.2.2.2.2.2.2.2.2.1, cell_ext hy hHeld.2.2.2.2.2.2.2.2.2.1, cell_ext hy hHeld.2.2.2.2.2.2.2.2.2.2⟩ | exact ⟨dc0, dc1, dc2, dc3, dc4, dc5, dc6, dc7, dc8, dc9, dc10⟩ | exact hHeld)
            clear hK K hHeld
            have hHeld := hHeld2
            clear hHeld2
            (try simp only [Act.put, List.getElem_toArray, List.getElem_cons_succ, List.getElem_cons_zero, List.setIfInBounds_toArray, List.set_cons_zero, List.set_cons_succ])
            refine wpAnyH_ready (rs := [13]) (by kernel_rfl) (by simp) ?_
            refine AllReadyH.cons (o := _) rfl (fun K hK => ?_) ?_
            · go_simp
              (with_reducible refine (sameT hv3 hv5 HE.out).mono ?_); rintro e y6 ⟨rfl, hy⟩; have hE := hE.trans hy
              refine hK.out _ _ ?_ (fun hHeld2 => ?_)
              · (first | exact ⟨cell_ext hy hHeld.1, cell_ext hy hHeld.2.1, cell_ext hy hHeld.2.2.1, cell_ext hy hHeld.2.2.2.1, cell_ext hy hHeld.2.2.2.2.1, cell_ext hy hHeld.2.2.2.2.2.1, cell_ext hy hHeld.2.2.2.2.2.2.1, cell_ext hy hHeld.2.2.2.2.2.2.2.1, cell_ext hy hHeld.2.2.2.2.2.2.2.2.1, cell_ext hy hHeld.2.2.2.2.2.2.2.2.2.1, cell_ext hy hHeld.2.2.2.2.2.2.2.2.2.2⟩ | exact ⟨dc0, dc1, dc2, dc3, dc4, dc5, dc6, dc7, dc8, dc9, dc10⟩ | exact hHeld)
              clear hK K hHeld
              have hHeld := hHeld2
              clear hHeld2
              (try simp only [Act.put, List.getElem_toArray, List.getElem_cons_succ, List.getElem_cons_zero, List.setIfInBounds_toArray, List.set_cons_zero, List.set_cons_succ])
              refine wpAnyH_take (i := 14) (oi := _) (v := ?_) rfl (by kernel_rfl) (by kernel_rfl) (by kernel_rfl) (fun _ _ _ h => h) (Or.inl ⟨by rfl, ?_⟩) (by assumption) ?_
              rotate_left
              · (intro w hSw; (try dsimp only at hSw); (try go_simp); (try with_reducible rfl))
              (try simp only [Act.put, List.getElem_toArray, List.getElem_cons_succ, List.getElem_cons_zero, List.setIfInBounds_toArray, List.set_cons_zero, List.set_cons_succ])
              refine wpAnyH_take (i := 15) (oi := _) (v := ?_) rfl (by kernel_rfl) (by kernel_rfl) (by kernel_rfl) (fun _ _ _ h => h) (Or.inl ⟨by rfl, ?_⟩) (by assumption) ?_
              rotate_left
              · (intro w hSw; (try dsimp only at hSw); (try go_simp); (try with_reducible rfl))
              (try simp only [Act.put, List.getElem_toArray, List.getElem_cons_succ, List.getElem_cons_zero, List.setIfInBounds_toArray, List.set_cons_zero, List.set_cons_succ])
              refine wpAnyH_take (i := 16) (oi := _) (v := ?_) rfl (by kernel_rfl) (by kernel_rfl) (by kernel_rfl) (fun _ _ _ h => h) (Or.inl ⟨by rfl, ?_⟩) (by assumption) ?_
              rotate_left
              · (intro w hSw; (try dsimp only at hSw); (try go_simp); (try with_reducible rfl))
              (try simp only [Act.put, List.getElem_toArray, List.getElem_cons_succ, List.getElem_cons_zero, List.setIfInBounds_toArray, List.set_cons_zero, List.set_cons_succ])
              refine wpAnyH_take (i := 17) (oi := _) (v := ?_) rfl (by kernel_rfl) (by kernel_rfl) (by kernel_rfl) (fun _ _ _ h => h) (Or.inl ⟨by rfl, ?_⟩) (by assumption) ?_
              rotate_left
              · (intro w hSw; (try dsimp only at hSw); (try go_simp); (try with_reducible rfl))
              (try simp only [Act.put, List.getElem_toArray, List.getElem_cons_succ, List.getElem_cons_zero, List.setIfInBounds_toArray, List.set_cons_zero, List.set_cons_succ])
              refine wpAnyH_take (i := 18) (oi := _) (v := ?_) rfl (by kernel_rfl) (by kernel_rfl) (by kernel_rfl) (fun _ _ _ h => h) (Or.inl ⟨by rfl, ?_⟩) (by assumption) ?_
              rotate_left
              · (intro w hSw; (try dsimp only at hSw); (try go_simp); (try with_reducible rfl))
              (try simp only [Act.put, List.getElem_toArray, List.getElem_cons_succ, List.getElem_cons_zero, List.setIfInBounds_toArray, List.set_cons_zero, List.set_cons_succ])
              refine wpAnyH_take (i := 19) (oi := _) (v := ?_) rfl (by kernel_rfl) (by kernel_rfl) (by kernel_rfl) (fun _ _ _ h => h) (Or.inl ⟨by rfl, ?_⟩) (by assumption) ?_
              rotate_left
              · (intro w hSw; (try dsimp only at hSw); (try go_simp); (try with_reducible rfl))
              (try simp only [Act.put, List.getElem_toArray, List.getElem_cons_succ, List.getElem_cons_zero, List.setIfInBounds_toArray, List.set_cons_zero, List.set_cons_succ])
              refine wpAnyH_done (by kernel_rfl) ?_ _
              (go_wp2_with fail; go_ret; exact ⟨rfl, hx.trans hE⟩)
            exact AllReadyH.nil
          exact AllReadyH.nil
        exact AllReadyH.nil
      exact AllReadyH.nil
    exact AllReadyH.nil
  exact AllReadyH.nil
set_option maxHeartbeats 4000000 in
theorem law_Gcd3 (na nb nd : Bool) (aa ab ad : Option Addr) (qa qb qd ca cb cd : Nat) (la_ lb_ ld_ : List Int) (w : World) (ha : Ints w aa ca la_) (hb : Ints w ab cb lb_) (hd : Ints w ad cd ld_) (la : la_.length = qa) (lb : lb_.length = qb) (ld : ld_.length = qd) (hv : ∀ x ∈ ([⟨na, aa, ca, la_⟩, ⟨nb, ab, cb, lb_⟩, ⟨nd, ad, cd, ld_⟩] : List BigA), okA x = true) (hc : (sgn nd (dval ld_) ∣ sgn na (dval la_)) ∧ (sgn nd (dval ld_) ∣ sgn nb (dval lb_))) :
    Calls Tryd.prog 7 #[.agg #[.bool na, .slice aa qa ca], .agg #[.bool nb, .slice ab qb cb], .agg #[.bool nd, .slice ad qd cd]] w fun e w' => e = .returned (.bool true) ∧ Ext w w' := by
  have HC := Lib.hid hc
  clear hc
  have HIa := Lib.hid ha
  have HIb := Lib.hid hb
  have HId := Lib.hid hd
  have HLa := Lib.hid la
  have HLb := Lib.hid lb
  have HLd := Lib.hid ld
  have HV := Lib.hid hv
  clear la lb ld ha hb hd hv
  have hx : Ext w ((((w).alloc (.cells #[.bool na, .slice aa qa ca] 24)).alloc (.cells #[.bool nb, .slice ab qb cb] 24)).alloc (.cells #[.bool nd, .slice ad qd cd] 24)) := (by repeat (first | with_reducible exact Ext.refl _ | with_reducible assumption | with_reducible refine Ext.drewN ?_ _ | with_reducible refine Ext.drew ?_ | with_reducible refine Ext.alloc' ?_ _ | with_reducible refine Ext.set ?_ (by dsimp only; omega) _))
  have Ka : Blk ((((w).alloc (.cells #[.bool na, .slice aa qa ca] 24)).alloc (.cells #[.bool nb, .slice ab qb cb] 24)).alloc (.cells #[.bool nd, .slice ad qd cd] 24)) (w.heap.size) #[.bool na, .slice aa qa ca] 24 := by have h := ((Blk.new0 (w) #[.bool na, .slice aa qa ca] 24).alloc (.cells #[.bool nb, .slice ab qb cb] 24)).alloc (.cells #[.bool nd, .slice ad qd cd] 24); simpa [Nat.add_assoc] using h
  have Ka := Lib.hid Ka
  have Kb : Blk ((((w).alloc (.cells #[.bool na, .slice aa qa ca] 24)).alloc (.cells #[.bool nb, .slice ab qb cb] 24)).alloc (.cells #[.bool nd, .slice ad qd cd] 24)) (w.heap.size + 1) #[.bool nb, .slice ab qb cb] 24 := by have h := (Blk.new0 ((w).alloc (.cells #[.bool na, .slice aa qa ca] 24)) #[.bool nb, .slice ab qb cb] 24).alloc (.cells #[.bool nd, .slice ad qd cd] 24); simpa [Nat.add_assoc] using h
  have Kb := Lib.hid Kb
  have Kd : Blk ((((w).alloc (.cells #[.bool na, .slice aa qa ca] 24)).alloc (.cells #[.bool nb, .slice ab qb cb] 24)).alloc (.cells #[.bool nd, .slice ad qd cd] 24)) (w.heap.size + 2) #[.bool nd, .slice ad qd cd] 24 := by have h := Blk.new0 (((w).alloc (.cells #[.bool na, .slice aa qa ca] 24)).alloc (.cells #[.bool nb, .slice ab qb cb] 24)) #[.bool nd, .slice ad qd cd] 24; simpa [Nat.add_assoc] using h
  have Kd := Lib.hid Kd
  go_enter Tryd.func7, Tryd.ntmps7
  go_upto_region 1 with fail
  try simp only [Nat.add_assoc, Nat.reduceAdd, Nat.add_zero]
  generalize (((w).alloc (.cells #[.bool na, .slice aa qa ca] 24)).alloc (.cells #[.bool nb, .slice ab qb cb] 24)).alloc (.cells #[.bool nd, .slice ad qd cd] 24) = x23 at *
  go_wp2_with fail
  with_reducible refine (law09Sane _).mono ?_
  rintro e x24 ⟨rfl, hy⟩
  have hx := hx.trans hy
  have Ka := Lib.hid (Ka.out.ext hy)
  have Kb := Lib.hid (Kb.out.ext hy)
  have Kd := Lib.hid (Kd.out.ext hy)
  clear hy
  have ca0 := Ka.out.cell (i := 0) (v := .bool na) rfl
  have ca1 := Ka.out.cell (i := 1) (v := .slice aa qa ca) rfl
  have cb0 := Kb.out.cell (i := 0) (v := .bool nb) rfl
  have cb1 := Kb.out.cell (i := 1) (v := .slice ab qb cb) rfl
  have cd0 := Kd.out.cell (i := 0) (v := .bool nd) rfl
  have cd1 := Kd.out.cell (i := 1) (v := .slice ad qd cd) rfl
  have hl := Ext.alloc x24 (.cells #[.bool na, .slice aa qa ca, .bool nb, .slice ab qb cb, .bool nd, .slice ad qd cd] 24)
  have hrow : BigRow (x24.alloc (.cells #[.bool na, .slice aa qa ca, .bool nb, .slice ab qb cb, .bool nd, .slice ad qd cd] 24)) x24.heap.size [⟨na, aa, ca, la_⟩, ⟨nb, ab, cb, lb_⟩, ⟨nd, ad, cd, ld_⟩] := by
    have hB := Blk.new0 x24 #[.bool na, .slice aa qa ca, .bool nb, .slice ab qb cb, .bool nd, .slice ad qd cd] 24
    have hxl := hx.trans hl
    rw [← HLa.out, ← HLb.out, ← HLd.out] at hB hxl ⊢
    exact bigRow3 hB (HIa.out.ext hxl) (HIb.out.ext hxl) (HId.out.ext hxl)
  have HROW := Lib.hid hrow
  clear hrow
  have HVAL := Lib.hid (law_valid_yes _ _ _ HROW.out (by simp) HV.out)
  simp only [List.length_cons, List.length_nil, Nat.zero_add, Nat.reduceAdd] at HVAL
  go_wp2_with fail
  with_reducible refine (HVAL.out).mono ?_
  rintro e x25 ⟨rfl, hy⟩
  have hx := hx.trans (hl.trans hy)
  have Ka := Lib.hid (Ka.out.ext (hl.trans hy))
  have Kb := Lib.hid (Kb.out.ext (hl.trans hy))
  have Kd := Lib.hid (Kd.out.ext (hl.trans hy))
  clear hl hy HROW HVAL
  clear ca0 ca1 cb0 cb1 cd0 cd1
  go_upto_region 6 with fail
  obtain ⟨hBa, hDa⟩ := okA_z (HV.out _ (show (⟨na, aa, ca, la_⟩ : BigA) ∈ ([⟨na, aa, ca, la_⟩, ⟨nb, ab, cb, lb_⟩, ⟨nd, ad, cd, ld_⟩] : List BigA) from by simp))
  obtain ⟨za, hza⟩ : ∃ z, sgn na (dval la_) = z := ⟨_, rfl⟩
  have Va : Hid (BigV w (.agg #[.bool na, .slice aa qa ca]) za) := Lib.hid ⟨na, la_, ⟨aa, ca, by rw [HLa.out], HIa.out⟩, by rw [← hza]; exact hBa⟩
  have Va := Lib.hid (Va.out.ext hx)
  have Da : Hid (za.natAbs < 1073741824 ^ 12) := Lib.hid (abs_lt (by rw [← hza]; exact hDa))
  have La : Hid (Len za) := Lib.hid (len_lt Da.out (by omega))
  obtain ⟨hBb, hDb⟩ := okA_z (HV.out _ (show (⟨nb, ab, cb, lb_⟩ : BigA) ∈ ([⟨na, aa, ca, la_⟩, ⟨nb, ab, cb, lb_⟩, ⟨nd, ad, cd, ld_⟩] : List BigA) from by simp))
  obtain ⟨zb, hzb⟩ : ∃ z, sgn nb (dval lb_) = z := ⟨_, rfl⟩
  have Vb : Hid (BigV w (.agg #[.bool nb, .slice ab qb cb]) zb) := Lib.hid ⟨nb, lb_, ⟨ab, cb, by rw [HLb.out], HIb.out⟩, by rw [← hzb]; exact hBb⟩
  have Vb := Lib.hid (Vb.out.ext hx)
  have Db : Hid (zb.natAbs < 1073741824 ^ 12) := Lib.hid (abs_lt (by rw [← hzb]; exact hDb))
  have Lb : Hid (Len zb) := Lib.hid (len_lt Db.out (by omega))
  obtain ⟨hBd, hDd⟩ := okA_z (HV.out _ (show (⟨nd, ad, cd, ld_⟩ : BigA) ∈ ([⟨na, aa, ca, la_⟩, ⟨nb, ab, cb, lb_⟩, ⟨nd, ad, cd, ld_⟩] : List BigA) from by simp))
  obtain ⟨zd, hzd⟩ : ∃ z, sgn nd (dval ld_) = z := ⟨_, rfl⟩
  have Vd : Hid (BigV w (.agg #[.bool nd, .slice ad qd cd]) zd) := Lib.hid ⟨nd, ld_, ⟨ad, cd, by rw [HLd.out], HId.out⟩, by rw [← hzd]; exact hBd⟩
  have Vd := Lib.hid (Vd.out.ext hx)
  have Dd : Hid (zd.natAbs < 1073741824 ^ 12) := Lib.hid (abs_lt (by rw [← hzd]; exact hDd))
  have Ld : Hid (Len zd) := Lib.hid (len_lt Dd.out (by omega))
  have HC : Hid ((zd ∣ za) ∧ (zd ∣ zb)) := Lib.hid (by simp only [← hza, ← hzb, ← hzd]; exact HC.out)
  clear hBa hDa hza hBb hDb hzb hBd hDd hzd
  have hl := Ext.alloc x25 (.cells #[.bool false] 49)
  have hx := hx.trans hl
  have Ka := Lib.hid (Ka.out.ext hl)
  have Kb := Lib.hid (Kb.out.ext hl)
  have Kd := Lib.hid (Kd.out.ext hl)
  have Va := Lib.hid (Va.out.ext hl)
  have Vb := Lib.hid (Vb.out.ext hl)
  have Vd := Lib.hid (Vd.out.ext hl)
  have KC := Lib.hid (Blk.new0 x25 #[.bool false] 49)
  clear hl
  generalize x25.alloc (.cells #[.bool false] 49) = x26 at *
  generalize x25.heap.size = pc at *
  have ca0 := Ka.out.cell (i := 0) (v := .bool na) rfl
  have ca1 := Ka.out.cell (i := 1) (v := .slice aa qa ca) rfl
  have cb0 := Kb.out.cell (i := 0) (v := .bool nb) rfl
  have cb1 := Kb.out.cell (i := 1) (v := .slice ab qb cb) rfl
  go_wp2_with fail
  with_reducible refine (gcd_any Va.out Vb.out La.out Lb.out).mono ?_
  rintro e x27 ⟨v, rfl, hv, hy⟩
  have hx := hx.trans hy
  have Ka := Lib.hid (Ka.out.ext hy)
  have Kb := Lib.hid (Kb.out.ext hy)
  have Kd := Lib.hid (Kd.out.ext hy)
  have Va := Lib.hid (Va.out.ext hy)
  have Vb := Lib.hid (Vb.out.ext hy)
  have Vd := Lib.hid (Vd.out.ext hy)
  have KC := Lib.hid (KC.out.ext hy)
  clear hy
  obtain ⟨ng, ag, qg, cg, rfl⟩ := hv.form
  have Vg := Lib.hid hv
  clear hv
  have Dg := Lib.hid (gcd_lt Da.out Db.out)
  have Lg := Lib.hid (len_lt Dg.out (by omega))
  clear ca0 ca1 cb0 cb1
  go_wp2_with fail
  with_reducible refine (of_val pc KC.out Vg.out Lg.out).mono ?_
  rintro e x28 ⟨rfl, hy⟩
  have hx := hx.trans hy
  have Ka := Lib.hid (Ka.out.ext hy)
  have Kb := Lib.hid (Kb.out.ext hy)
  have Kd := Lib.hid (Kd.out.ext hy)
  have Va := Lib.hid (Va.out.ext hy)
  have Vb := Lib.hid (Vb.out.ext hy)
  have Vd := Lib.hid (Vd.out.ext hy)
  have KC := Lib.hid (KC.out.ext hy)
  have Vg := Lib.hid (Vg.out.ext hy)
  clear hy
  have hng : ng = false := Vg.out.pos (by omega)
  subst hng
  go_upto_region 8 with fail
  have hl := Ext.alloc x28 (.cells #[.bool false, .slice ag qg cg] 24)
  have hx := hx.trans hl
  have Ka := Lib.hid (Ka.out.ext hl)
  have Kb := Lib.hid (Kb.out.ext hl)
  have Kd := Lib.hid (Kd.out.ext hl)
  have Va := Lib.hid (Va.out.ext hl)
  have Vb := Lib.hid (Vb.out.ext hl)
  have Vd := Lib.hid (Vd.out.ext hl)
  have KC := Lib.hid (KC.out.ext hl)
  have Vg := Lib.hid (Vg.out.ext hl)
  have Kg := Lib.hid (Blk.new0 x28 #[.bool false, .slice ag qg cg] 24)
  clear hl
  generalize x28.alloc (.cells #[.bool false, .slice ag qg cg] 24) = x29 at *
  generalize x28.heap.size = pg at *
  have HG1 := Lib.hid (show dvdB ((Int.gcd za zb : Nat) : Int) za = true from decide_eq_true (Int.gcd_dvd_left za zb))
  have HG2 := Lib.hid (show dvdB ((Int.gcd za zb : Nat) : Int) zb = true from decide_eq_true (Int.gcd_dvd_right za zb))
  have HG3 := Lib.hid (show ((Int.gcd za zb : Nat) : Int) = ((Int.gcd zb (0 - za) : Nat) : Int) from by rw [Int.zero_sub, Int.gcd_neg, Int.gcd_comm])
  have DN := Lib.hid (show (0 - za).natAbs < 1073741824 ^ 12 from by have := Da.out; rw [Int.zero_sub, Int.natAbs_neg]; exact this)
  have LN := Lib.hid (len_lt DN.out (by omega))
  have LG2 := Lib.hid (len_lt (gcd_lt Db.out DN.out) (by omega))
  have L0 := Lib.hid (len_small (z := 0) (by decide))
  go_cut [53] (fun s53 wx => s53 = .bool false ∧ Ext x29 wx)
  case first =>
    have dc0 : x29.cell? ⟨w.heap.size, 0, none⟩ = some (.bool na) := Ka.out.cell (i := 0) rfl
    have dc1 : x29.cell? ⟨w.heap.size, 1, none⟩ = some (.slice aa qa ca) := Ka.out.cell (i := 1) rfl
    have dc2 : x29.cell? ⟨w.heap.size + 1, 0, none⟩ = some (.bool nb) := Kb.out.cell (i := 0) rfl
    have dc3 : x29.cell? ⟨w.heap.size + 1, 1, none⟩ = some (.slice ab qb cb) := Kb.out.cell (i := 1) rfl
    have dc4 : x29.cell? ⟨pg, 0, none⟩ = some (.bool false) := Kg.out.cell (i := 0) rfl
    have dc5 : x29.cell? ⟨pg, 1, none⟩ = some (.slice ag qg cg) := Kg.out.cell (i := 1) rfl
    have hE : Ext x29 x29.drew := (Ext.refl _).drew
    refine wp_region_held_drew (S := (fun w' => w'.cell? ⟨w.heap.size, 0, none⟩ = some (.bool na) ∧ w'.cell? ⟨w.heap.size, 1, none⟩ = some (.slice aa qa ca) ∧ w'.cell? ⟨w.heap.size + 1, 0, none⟩ = some (.bool nb) ∧ w'.cell? ⟨w.heap.size + 1, 1, none⟩ = some (.slice ab qb cb) ∧ w'.cell? ⟨pg, 0, none⟩ = some (.bool false) ∧ w'.cell? ⟨pg, 1, none⟩ = some (.slice ag qg cg))) (by kernel_rfl) ?_ (fun hHeld => ?_)
    · (first | exact ⟨cell_ext hy hHeld.1, cell_ext hy hHeld.2.1, cell_ext hy hHeld.2.2.1, cell_ext hy hHeld.2.2.2.1, cell_ext hy hHeld.2.2.2.2.1, cell_ext hy hHeld.2.2.2.2.2⟩ | exact ⟨dc0, dc1, dc2, dc3, dc4, dc5⟩ | exact hHeld)
    refine wpAnyH_take (i := 0) (oi := _) (v := ?_) rfl (by kernel_rfl) (by kernel_rfl) (by kernel_rfl) (fun _ _ _ h => h) (Or.inl ⟨by rfl, ?_⟩) (by assumption) ?_
    rotate_left
    · (intro w hSw; (try dsimp only at hSw); (try go_simp); (try with_reducible rfl))
    (try simp only [Act.put, List.getElem_toArray, List.getElem_cons_succ, List.getElem_cons_zero, List.setIfInBounds_toArray, List.set_cons_zero, List.set_cons_succ])
    refine wpAnyH_take (i := 1) (oi := _) (v := ?_) rfl (by kernel_rfl) (by kernel_rfl) (by kernel_rfl) (fun _ _ _ h => h) (Or.inl ⟨by rfl, ?_⟩) (by assumption) ?_
    rotate_left
    · (intro w hSw; (try dsimp only at hSw); (try go_simp); (try with_reducible rfl))
    (try simp only [Act.put, List.getElem_toArray, List.getElem_cons_succ, List.getElem_cons_zero, List.setIfInBounds_toArray, List.set_cons_zero, List.set_cons_succ])
    refine wpAnyH_take (i := 2) (oi := _) (v := ?_) rfl (by kernel_rfl) (by kernel_rfl) (by kernel_rfl) (fun _ _ _ h => h) (Or.inl ⟨by rfl, ?_⟩) (by assumption) ?_
    rotate_left
    · (intro w hSw; (try dsimp only at hSw); (try go_simp); (try with_reducible rfl))
    (try simp only [Act.put, List.getElem_toArray, List.getElem_cons_succ, List.getElem_cons_zero, List.setIfInBounds_toArray, List.set_cons_zero, List.set_cons_succ])
    refine wpAnyH_take (i := 3) (oi := _) (v := ?_) rfl (by kernel_rfl) (by kernel_rfl) (by kernel_rfl) (fun _ _ _ h => h) (Or.inl ⟨by rfl, ?_⟩) (by assumption) ?_
    rotate_left
    · (intro w hSw; (try dsimp only at hSw); (try go_simp); (try with_reducible rfl))
    (try simp only [Act.put, List.getElem_toArray, List.getElem_cons_succ, List.getElem_cons_zero, List.setIfInBounds_toArray, List.set_cons_zero, List.set_cons_succ])
    refine wpAnyH_take (i := 4) (oi := _) (v := ?_) rfl (by kernel_rfl) (by kernel_rfl) (by kernel_rfl) (fun _ _ _ h => h) (Or.inl ⟨by rfl, ?_⟩) (by assumption) ?_
    rotate_left
    · (intro w hSw; (try dsimp only at hSw); (try go_simp); (try with_reducible rfl))
    (try simp only [Act.put, List.getElem_toArray, List.getElem_cons_succ, List.getElem_cons_zero, List.setIfInBounds_toArray, List.set_cons_zero, List.set_cons_succ])
    refine wpAnyH_take (i := 5) (oi := _) (v := ?_) rfl (by kernel_rfl) (by kernel_rfl) (by kernel_rfl) (fun _ _ _ h => h) (Or.inl ⟨by rfl, ?_⟩) (by assumption) ?_
    rotate_left
    · (intro w hSw; (try dsimp only at hSw); (try go_simp); (try with_reducible rfl))
    (try simp only [Act.put, List.getElem_toArray, List.getElem_cons_succ, List.getElem_cons_zero, List.setIfInBounds_toArray, List.set_cons_zero, List.set_cons_succ])
    refine wpAnyH_ready (rs := [6]) (by kernel_rfl) (by simp) ?_
    refine AllReadyH.cons (o := _) rfl (fun K hK => ?_) ?_
    · go_simp
      (with_reducible refine (law_divides (Vg.out.ext hE) (Va.out.ext hE) Lg.out La.out).mono ?_); rintro e y1 ⟨rfl, hy⟩; rw [HG1.out]; have hE := hE.trans hy
      refine hK.out _ _ ?_ (fun hHeld2 => ?_)
      · (first | exact ⟨cell_ext hy hHeld.1, cell_ext hy hHeld.2.1, cell_ext hy hHeld.2.2.1, cell_ext hy hHeld.2.2.2.1, cell_ext hy hHeld.2.2.2.2.1, cell_ext hy hHeld.2.2.2.2.2⟩ | exact ⟨dc0, dc1, dc2, dc3, dc4, dc5⟩ | exact hHeld)
      clear hK K hHeld
      have hHeld := hHeld2
      clear hHeld2
      (try simp only [Act.put, List.getElem_toArray, List.getElem_cons_succ, List.getElem_cons_zero, List.setIfInBounds_toArray, List.set_cons_zero, List.set_cons_succ])
      refine wpAnyH_take (i := 7) (oi := _) (v := ?_) rfl (by kernel_rfl) (by kernel_rfl) (by kernel_rfl) (fun _ _ _ h => h) (Or.inl ⟨by rfl, ?_⟩) (by assumption) ?_
      rotate_left
      · (intro w hSw; (try dsimp only at hSw); (try go_simp); (try with_reducible rfl))
      (try simp only [Act.put, List.getElem_toArray, List.getElem_cons_succ, List.getElem_cons_zero, List.setIfInBounds_toArray, List.set_cons_zero, List.set_cons_succ])
      refine wpAnyH_take (i := 8) (oi := _) (v := ?_) rfl (by kernel_rfl) (by kernel_rfl) (by kernel_rfl) (fun _ _ _ h => h) (Or.inl ⟨by rfl, ?_⟩) (by assumption) ?_
      rotate_left
      · (intro w hSw; (try dsimp only at hSw); (try go_simp); (try with_reducible rfl))
      (try simp only [Act.put, List.getElem_toArray, List.getElem_cons_succ, List.getElem_cons_zero, List.setIfInBounds_toArray, List.set_cons_zero, List.set_cons_succ])
      refine wpAnyH_take (i := 9) (oi := _) (v := ?_) rfl (by kernel_rfl) (by kernel_rfl) (by kernel_rfl) (fun _ _ _ h => h) (Or.inl ⟨by rfl, ?_⟩) (by assumption) ?_
      rotate_left
      · (intro w hSw; (try dsimp only at hSw); (try go_simp); (try with_reducible rfl))
      (try simp only [Act.put, List.getElem_toArray, List.getElem_cons_succ, List.getElem_cons_zero, List.setIfInBounds_toArray, List.set_cons_zero, List.set_cons_succ])
      refine wpAnyH_take (i := 10) (oi := _) (v := ?_) rfl (by kernel_rfl) (by kernel_rfl) (by kernel_rfl) (fun _ _ _ h => h) (Or.inl ⟨by rfl, ?_⟩) (by assumption) ?_
      rotate_left
      · (intro w hSw; (try dsimp only at hSw); (try go_simp); (try with_reducible rfl))
      (try simp only [Act.put, List.getElem_toArray, List.getElem_cons_succ, List.getElem_cons_zero, List.setIfInBounds_toArray, List.set_cons_zero, List.set_cons_succ])
      refine wpAnyH_take (i := 11) (oi := _) (v := ?_) rfl (by kernel_rfl) (by kernel_rfl) (by kernel_rfl) (fun _ _ _ h => h) (Or.inl ⟨by rfl, ?_⟩) (by assumption) ?_
      rotate_left
      · (intro w hSw; (try dsimp only at hSw); (try go_simp); (try with_reducible rfl))
      (try simp only [Act.put, List.getElem_toArray, List.getElem_cons_succ, List.getElem_cons_zero, List.setIfInBounds_toArray, List.set_cons_zero, List.set_cons_succ])
      refine wpAnyH_take (i := 12) (oi := _) (v := ?_) rfl (by kernel_rfl) (by kernel_rfl) (by kernel_rfl) (fun _ _ _ h => h) (Or.inl ⟨by rfl, ?_⟩) (by assumption) ?_
      rotate_left
      · (intro w hSw; (try dsimp only at hSw); (try go_simp); (try with_reducible rfl))
      (try simp only [Act.put, List.getElem_toArray, List.getElem_cons_succ, List.getElem_cons_zero, List.setIfInBounds_toArray, List.set_cons_zero, List.set_cons_succ])
      refine wpAnyH_ready (rs := [13]) (by kernel_rfl) (by simp) ?_
      refine AllReadyH.cons (o := _) rfl (fun K hK => ?_) ?_
      · go_simp
        (with_reducible refine (law_divides (Vg.out.ext hE) (Vb.out.ext hE) Lg.out Lb.out).mono ?_); rintro e y2 ⟨rfl, hy⟩; rw [HG2.out]; have hE := hE.trans hy
        refine hK.out _ _ ?_ (fun hHeld2 => ?_)
        · (first | exact ⟨cell_ext hy hHeld.1, cell_ext hy hHeld.2.1, cell_ext hy hHeld.2.2.1, cell_ext hy hHeld.2.2.2.1, cell_ext hy hHeld.2.2.2.2.1, cell_ext hy hHeld.2.2.2.2.2⟩ | exact ⟨dc0, dc1, dc2, dc3, dc4, dc5⟩ | exact hHeld)
        clear hK K hHeld
        have hHeld := hHeld2
        clear hHeld2
        (try simp only [Act.put, List.getElem_toArray, List.getElem_cons_succ, List.getElem_cons_zero, List.setIfInBounds_toArray, List.set_cons_zero, List.set_cons_succ])
        refine wpAnyH_take (i := 14) (oi := _) (v := ?_) rfl (by kernel_rfl) (by kernel_rfl) (by kernel_rfl) (fun _ _ _ h => h) (Or.inl ⟨by rfl, ?_⟩) (by assumption) ?_
        rotate_left
        · (intro w hSw; (try dsimp only at hSw); (try go_simp); (try with_reducible rfl))
        (try simp only [Act.put, List.getElem_toArray, List.getElem_cons_succ, List.getElem_cons_zero, List.setIfInBounds_toArray, List.set_cons_zero, List.set_cons_succ])
        refine wpAnyH_take (i := 15) (oi := _) (v := ?_) rfl (by kernel_rfl) (by kernel_rfl) (by kernel_rfl) (fun _ _ _ h => h) (Or.inl ⟨by rfl, ?_⟩) (by assumption) ?_
        rotate_left
        · (intro w hSw; (try dsimp only at hSw); (try go_simp); (try with_reducible rfl))
        (try simp only [Act.put, List.getElem_toArray, List.getElem_cons_succ, List.getElem_cons_zero, List.setIfInBounds_toArray, List.set_cons_zero, List.set_cons_succ])
        refine wpAnyH_take (i := 16) (oi := _) (v := ?_) rfl (by kernel_rfl) (by kernel_rfl) (by kernel_rfl) (fun _ _ _ h => h) (Or.inl ⟨by rfl, ?_⟩) (by assumption) ?_
        rotate_left
        · (intro w hSw; (try dsimp only at hSw); (try go_simp); (try with_reducible rfl))
        (try simp only [Act.put, List.getElem_toArray, List.getElem_cons_succ, List.getElem_cons_zero, List.setIfInBounds_toArray, List.set_cons_zero, List.set_cons_succ])
        refine wpAnyH_take (i := 17) (oi := _) (v := ?_) rfl (by kernel_rfl) (by kernel_rfl) (by kernel_rfl) (fun _ _ _ h => h) (Or.inl ⟨by rfl, ?_⟩) (by assumption) ?_
        rotate_left
        · (intro w hSw; (try dsimp only at hSw); (try go_simp); (try with_reducible rfl))
        (try simp only [Act.put, List.getElem_toArray, List.getElem_cons_succ, List.getElem_cons_zero, List.setIfInBounds_toArray, List.set_cons_zero, List.set_cons_succ])
        refine wpAnyH_take (i := 18) (oi := _) (v := ?_) rfl (by kernel_rfl) (by kernel_rfl) (by kernel_rfl) (fun _ _ _ h => h) (Or.inl ⟨by rfl, ?_⟩) (by assumption) ?_
        rotate_left
        · (intro w hSw; (try dsimp only at hSw); (try go_simp); (try with_reducible rfl))
        (try simp only [Act.put, List.getElem_toArray, List.getElem_cons_succ, List.getElem_cons_zero, List.setIfInBounds_toArray, List.set_cons_zero, List.set_cons_succ])
        refine wpAnyH_take (i := 19) (oi := _) (v := ?_) rfl (by kernel_rfl) (by kernel_rfl) (by kernel_rfl) (fun _ _ _ h => h) (Or.inl ⟨by rfl, ?_⟩) (by assumption) ?_
        rotate_left
        · (intro w hSw; (try dsimp only at hSw); (try go_simp); (try with_reducible rfl))
        (try simp only [Act.put, List.getElem_toArray, List.getElem_cons_succ, List.getElem_cons_zero, List.setIfInBounds_toArray, List.set_cons_zero, List.set_cons_succ])
        refine wpAnyH_take (i := 20) (oi := _) (v := ?_) rfl (by kernel_rfl) (by kernel_rfl) (by kernel_rfl) (fun _ _ _ h => h) (Or.inl ⟨by rfl, ?_⟩) (by assumption) ?_
        rotate_left
        · (intro w hSw; (try dsimp only at hSw); (try go_simp); (try with_reducible rfl))
        (try simp only [Act.put, List.getElem_toArray, List.getElem_cons_succ, List.getElem_cons_zero, List.setIfInBounds_toArray, List.set_cons_zero, List.set_cons_succ])
        refine wpAnyH_ready (rs := [21]) (by kernel_rfl) (by simp) ?_
        refine AllReadyH.cons (o := _) rfl (fun K hK => ?_) ?_
        · go_simp
          (with_reducible refine (calc_sub pc _ (KC.out.ext hE) (BigV.zero _) (Va.out.ext hE) L0.out La.out LN.out).mono ?_); rintro e y3 ⟨v3, rfl, hv3, hy⟩; have hE := hE.trans hy
          refine hK.out _ _ ?_ (fun hHeld2 => ?_)
          · (first | exact ⟨cell_ext hy hHeld.1, cell_ext hy hHeld.2.1, cell_ext hy hHeld.2.2.1, cell_ext hy hHeld.2.2.2.1, cell_ext hy hHeld.2.2.2.2.1, cell_ext hy hHeld.2.2.2.2.2⟩ | exact ⟨dc0, dc1, dc2, dc3, dc4, dc5⟩ | exact hHeld)
          clear hK K hHeld
          have hHeld := hHeld2
          clear hHeld2
          (try simp only [Act.put, List.getElem_toArray, List.getElem_cons_succ, List.getElem_cons_zero, List.setIfInBounds_toArray, List.set_cons_zero, List.set_cons_succ])
          refine wpAnyH_ready (rs := [22]) (by kernel_rfl) (by simp) ?_
          refine AllReadyH.cons (o := _) rfl (fun K hK => ?_) ?_
          · go_simp
            (with_reducible refine (gcd_any (Vb.out.ext hE) hv3.val Lb.out LN.out).mono ?_); rintro e y4 ⟨v4, rfl, hv4, hy⟩; have hE := hE.trans hy
            refine hK.out _ _ ?_ (fun hHeld2 => ?_)
            · (first | exact ⟨cell_ext hy hHeld.1, cell_ext hy hHeld.2.1, cell_ext hy hHeld.2.2.1, cell_ext hy hHeld.2.2.2.1, cell_ext hy hHeld.2.2.2.2.1, cell_ext hy hHeld.2.2.2.2.2⟩ | exact ⟨dc0, dc1, dc2, dc3, dc4, dc5⟩ | exact hHeld)
            clear hK K hHeld
            have hHeld := hHeld2
            clear hHeld2
            (try simp only [Act.put, List.getElem_toArray, List.getElem_cons_succ, List.getElem_cons_zero, List.setIfInBounds_toArray, List.set_cons_zero, List.set_cons_succ])
            refine wpAnyH_take (i := 23) (oi := _) (v := ?_) rfl (by kernel_rfl) (by kernel_rfl) (by kernel_rfl) (fun _ _ _ h => h) (Or.inl ⟨by rfl, ?_⟩) (by assumption) ?_
            rotate_left
            · (intro w hSw; (try dsimp only at hSw); (try go_simp); (try with_reducible rfl))
            (try simp only [Act.put, List.getElem_toArray, List.getElem_cons_succ, List.getElem_cons_zero, List.setIfInBounds_toArray, List.set_cons_zero, List.set_cons_succ])
            refine wpAnyH_take (i := 24) (oi := _) (v := ?_) rfl (by kernel_rfl) (by kernel_rfl) (by kernel_rfl) (fun _ _ _ h => h) (Or.inl ⟨by rfl, ?_⟩) (by assumption) ?_
            rotate_left
            · (intro w hSw; (try dsimp only at hSw); (try go_simp); (try with_reducible rfl))
            (try simp only [Act.put, List.getElem_toArray, List.getElem_cons_succ, List.getElem_cons_zero, List.setIfInBounds_toArray, List.set_cons_zero, List.set_cons_succ])
            refine wpAnyH_ready (rs := [25]) (by kernel_rfl) (by simp) ?_
            refine AllReadyH.cons (o := _) rfl (fun K hK => ?_) ?_
            · go_simp
              (with_reducible refine (of_val pc (KC.out.ext hE) hv4 LG2.out).mono ?_); rintro e y5 ⟨rfl, hy⟩; have hv4 := hv4.ext hy; have hE := hE.trans hy
              refine hK.out _ _ ?_ (fun hHeld2 => ?_)
              · (first | exact ⟨cell_ext hy hHeld.1, cell_ext hy hHeld.2.1, cell_ext hy hHeld.2.2.1, cell_ext hy hHeld.2.2.2.1, cell_ext hy hHeld.2.2.2.2.1, cell_ext hy hHeld.2.2.2.2.2⟩ | exact ⟨dc0, dc1, dc2, dc3, dc4, dc5⟩ | exact hHeld)
              clear hK K hHeld
              have hHeld := hHeld2
              clear hHeld2
              (try simp only [Act.put, List.getElem_toArray, List.getElem_cons_succ, List.getElem_cons_zero, List.setIfInBounds_toArray, List.set_cons_zero, List.set_cons_succ])
              refine wpAnyH_ready (rs := [26]) (by kernel_rfl) (by simp) ?_
              refine AllReadyH.cons (o := _) rfl (fun K hK => ?_) ?_
              · go_simp
                (with_reducible refine (sameT (Vg.out.ext hE) hv4 HG3.out).mono ?_); rintro e y6 ⟨rfl, hy⟩; have hE := hE.trans hy
                refine hK.out _ _ ?_ (fun hHeld2 => ?_)
                · (first | exact ⟨cell_ext hy hHeld.1, cell_ext hy hHeld.2.1, cell_ext hy hHeld.2.2.1, cell_ext hy hHeld.2.2.2.1, cell_ext hy hHeld.2.2.2.2.1, cell_ext hy hHeld.2.2.2.2.2⟩ | exact ⟨dc0, dc1, dc2, dc3, dc4, dc5⟩ | exact hHeld)
                clear hK K hHeld
                have hHeld := hHeld2
                clear hHeld2
                (try simp only [Act.put, List.getElem_toArray, List.getElem_cons_succ, List.getElem_cons_zero, List.setIfInBounds_toArray, List.set_cons_zero, List.set_cons_succ])
                refine wpAnyH_take (i := 27) (oi := _) (v := ?_) rfl (by kernel_rfl) (by kernel_rfl) (by kernel_rfl) (fun _ _ _ h => h) (Or.inl ⟨by rfl, ?_⟩) (by assumption) ?_
                rotate_left
                · (intro w hSw; (try dsimp only at hSw); (try go_simp); (try with_reducible rfl))
                (try simp only [Act.put, List.getElem_toArray, List.getElem_cons_succ, List.getElem_cons_zero, List.setIfInBounds_toArray, List.set_cons_zero, List.set_cons_succ])
                refine wpAnyH_take (i := 28) (oi := _) (v := ?_) rfl (by kernel_rfl) (by kernel_rfl) (by kernel_rfl) (fun _ _ _ h => h) (Or.inl ⟨by rfl, ?_⟩) (by assumption) ?_
                rotate_left
                · (intro w hSw; (try dsimp only at hSw); (try go_simp); (try with_reducible rfl))
                (try simp only [Act.put, List.getElem_toArray, List.getElem_cons_succ, List.getElem_cons_zero, List.setIfInBounds_toArray, List.set_cons_zero, List.set_cons_succ])
                refine wpAnyH_done (by kernel_rfl) ?_ _
                (go_wp2_with fail; go_meet; exact ⟨rfl, hE⟩)
              exact AllReadyH.nil
            exact AllReadyH.nil
          exact AllReadyH.nil
        exact AllReadyH.nil
      exact AllReadyH.nil
    exact AllReadyH.nil
  case rest =>
  obtain ⟨rfl, hy⟩ := hcut
  have hx := hx.trans hy
  have Ka := Lib.hid (Ka.out.ext hy)
  have Kb := Lib.hid (Kb.out.ext hy)
  have Kd := Lib.hid (Kd.out.ext hy)
  have Va := Lib.hid (Va.out.ext hy)
  have Vb := Lib.hid (Vb.out.ext hy)
  have Vd := Lib.hid (Vd.out.ext hy)
  have KC := Lib.hid (KC.out.ext hy)
  have Vg := Lib.hid (Vg.out.ext hy)
  have Kg := Lib.hid (Kg.out.ext hy)
  clear hy HG1 HG2 HG3 DN LN LG2
  have HCA := Lib.hid (show dvdB zd za = true from decide_eq_true HC.out.1)
  have HCB := Lib.hid (show dvdB zd zb = true from decide_eq_true HC.out.2)
  have HCG := Lib.hid (show dvdB zd ((Int.gcd za zb : Nat) : Int) = true from decide_eq_true (Int.dvd_coe_gcd HC.out.1 HC.out.2))
  have cd0 := Kd.out.cell (i := 0) (v := .bool nd) rfl
  have cd1 := Kd.out.cell (i := 1) (v := .slice ad qd cd) rfl
  have ca0 := Ka.out.cell (i := 0) (v := .bool na) rfl
  have ca1 := Ka.out.cell (i := 1) (v := .slice aa qa ca) rfl
  go_wp2_with fail
  with_reducible refine (divT Vd.out Va.out Ld.out La.out HCA.out).mono ?_
  rintro e x30 ⟨rfl, hy⟩
  have hx := hx.trans hy
  have Ka := Lib.hid (Ka.out.ext hy)
  have Kb := Lib.hid (Kb.out.ext hy)
  have Kd := Lib.hid (Kd.out.ext hy)
  have Va := Lib.hid (Va.out.ext hy)
  have Vb := Lib.hid (Vb.out.ext hy)
  have Vd := Lib.hid (Vd.out.ext hy)
  have KC := Lib.hid (KC.out.ext hy)
  have Vg := Lib.hid (Vg.out.ext hy)
  have Kg := Lib.hid (Kg.out.ext hy)
  clear hy
  clear cd0 cd1 ca0 ca1
  have cd0 := Kd.out.cell (i := 0) (v := .bool nd) rfl
  have cd1 := Kd.out.cell (i := 1) (v := .slice ad qd cd) rfl
  have cb0 := Kb.out.cell (i := 0) (v := .bool nb) rfl
  have cb1 := Kb.out.cell (i := 1) (v := .slice ab qb cb) rfl
  go_wp2_with fail
  with_reducible refine (divT Vd.out Vb.out Ld.out Lb.out HCB.out).mono ?_
  rintro e x31 ⟨rfl, hy⟩
  have hx := hx.trans hy
  have Ka := Lib.hid (Ka.out.ext hy)
  have Kb := Lib.hid (Kb.out.ext hy)
  have Kd := Lib.hid (Kd.out.ext hy)
  have Va := Lib.hid (Va.out.ext hy)
  have Vb := Lib.hid (Vb.out.ext hy)
  have Vd := Lib.hid (Vd.out.ext hy)
  have KC := Lib.hid (KC.out.ext hy)
  have Vg := Lib.hid (Vg.out.ext hy)
  have Kg := Lib.hid (Kg.out.ext hy)
  clear hy
  clear cd0 cd1 cb0 cb1
  have cd0 := Kd.out.cell (i := 0) (v := .bool nd) rfl
  have cd1 := Kd.out.cell (i := 1) (v := .slice ad qd cd) rfl
  have cg0 := Kg.out.cell (i := 0) (v := .bool false) rfl
  have cg1 := Kg.out.cell (i := 1) (v := .slice ag qg cg) rfl
  go_wp2_with fail
  with_reducible refine (divT Vd.out Vg.out Ld.out Lg.out HCG.out).mono ?_
  rintro e x32 ⟨rfl, hy⟩
  have hx := hx.trans hy
  have Ka := Lib.hid (Ka.out.ext hy)
  have Kb := Lib.hid (Kb.out.ext hy)
  have Kd := Lib.hid (Kd.out.ext hy)
  have Va := Lib.hid (Va.out.ext hy)
  have Vb := Lib.hid (Vb.out.ext hy)
  have Vd := Lib.hid (Vd.out.ext hy)
  have KC := Lib.hid (KC.out.ext hy)
  have Vg := Lib.hid (Vg.out.ext hy)
  have Kg := Lib.hid (Kg.out.ext hy)
  clear hy
  clear cd0 cd1 cg0 cg1
  have cd0 := Kd.out.cell (i := 0) (v := .bool nd) rfl
  have cd1 := Kd.out.cell (i := 1) (v := .slice ad qd cd) rfl
  go_upto_region 14 with fail
  have hl := Ext.alloc x32 (.cells #[.bool false, .slice ad qd cd] 24)
  have hx := hx.trans hl
  have Ka := Lib.hid (Ka.out.ext hl)
  have Kb := Lib.hid (Kb.out.ext hl)
  have Kd := Lib.hid (Kd.out.ext hl)
  have Va := Lib.hid (Va.out.ext hl)
  have Vb := Lib.hid (Vb.out.ext hl)
  have Vd := Lib.hid (Vd.out.ext hl)
  have KC := Lib.hid (KC.out.ext hl)
  have Vg := Lib.hid (Vg.out.ext hl)
  have Kg := Lib.hid (Kg.out.ext hl)
  have Ks := Lib.hid (Blk.new0 x32 #[.bool false, .slice ad qd cd] 24)
  clear hl cd0 cd1
  generalize x32.alloc (.cells #[.bool false, .slice ad qd cd] 24) = x33 at *
  generalize x32.heap.size = ps at *
  have Vs := Lib.hid Vd.out.abs
  have Ds : Hid ((zd.natAbs : Int).natAbs < 1073741824 ^ 12) := Lib.hid (by rw [Int.natAbs_natCast]; exact Dd.out)
  have Ls := Lib.hid (len_lt Ds.out (by omega))
  have D1 := Lib.hid (mul_lt Da.out Dd.out)
  have D2 := Lib.hid (mul_lt Db.out Dd.out)
  have D3 := Lib.hid (mul_lt Dg.out Ds.out)
  have L1 := Lib.hid (len_lt D1.out (by omega))
  have L2 := Lib.hid (len_lt D2.out (by omega))
  have L3 := Lib.hid (len_lt D3.out (by omega))
  have L4 := Lib.hid (len_lt (gcd_lt D1.out D2.out) (by omega))
  have HE := Lib.hid (show ((Int.gcd (za * zd) (zb * zd) : Nat) : Int) = ((Int.gcd za zb : Nat) : Int) * (zd.natAbs : Int) from by rw [Int.gcd_mul_right]; exact Int.natCast_mul _ _)
  have dc0 : x33.cell? ⟨w.heap.size, 0, none⟩ = some (.bool na) := Ka.out.cell (i := 0) rfl
  have dc1 : x33.cell? ⟨w.heap.size, 1, none⟩ = some (.slice aa qa ca) := Ka.out.cell (i := 1) rfl
  have dc2 : x33.cell? ⟨w.heap.size + 1, 0, none⟩ = some (.bool nb) := Kb.out.cell (i := 0) rfl
  have dc3 : x33.cell? ⟨w.heap.size + 1, 1, none⟩ = some (.slice ab qb cb) := Kb.out.cell (i := 1) rfl
  have dc4 : x33.cell? ⟨w.heap.size + 2, 0, none⟩ = some (.bool nd) := Kd.out.cell (i := 0) rfl
  have dc5 : x33.cell? ⟨w.heap.size + 2, 1, none⟩ = some (.slice ad qd cd) := Kd.out.cell (i := 1) rfl
  have dc6 : x33.cell? ⟨pg, 0, none⟩ = some (.bool false) := Kg.out.cell (i := 0) rfl
  have dc7 : x33.cell? ⟨pg, 1, none⟩ = some (.slice ag qg cg) := Kg.out.cell (i := 1) rfl
  have dc8 : x33.cell? ⟨ps, 0, none⟩ = some (.bool false) := Ks.out.cell (i := 0) rfl
  have dc9 : x33.cell? ⟨ps, 1, none⟩ = some (.slice ad qd cd) := Ks.out.cell (i := 1) rfl
  have dc10 : x33.cell? ⟨pc, 0, none⟩ = some (.bool false) := KC.out.cell (i := 0) rfl
  have hE : Ext x33 x33.drew := (Ext.refl _).drew
  refine wp_region_held_drew (S := (fun w' => w'.cell? ⟨w.heap.size, 0, none⟩ = some (.bool na) ∧ w'.cell? ⟨w.heap.size, 1, none⟩ = some (.slice aa qa ca) ∧ w'.cell? ⟨w.heap.size + 1, 0, none⟩ = some (.bool nb) ∧ w'.cell? ⟨w.heap.size + 1, 1, none⟩ = some (.slice ab qb cb) ∧ w'.cell? ⟨w.heap.size + 2, 0, none⟩ = some (.bool nd) ∧ w'.cell? ⟨w.heap.size + 2, 1, none⟩ = some (.slice ad qd cd) ∧ w'.cell? ⟨pg, 0, none⟩ = some (.bool false) ∧ w'.cell? ⟨pg, 1, none⟩ = some (.slice ag qg cg) ∧ w'.cell? ⟨ps, 0, none⟩ = some (.bool false) ∧ w'.cell? ⟨ps, 1, none⟩ = some (.slice ad qd cd) ∧ w'.cell? ⟨pc, 0, none⟩ = some (.bool false))) (by kernel_rfl) ?_ (fun hHeld => ?_)
  · (first | exact ⟨cell_ext hy hHeld.1, cell_ext hy hHeld.2.1, cell_ext hy hHeld.2.2.1, cell_ext hy hHeld.2.2.2.1, cell_ext hy hHeld.2.2.2.2.1, cell_ext hy hHeld.2.2.2.2.2.1, cell_ext hy hHeld.2.2.2.2.2.2.1, cell_ext hy hHeld.2.2.2.2.2.2.2.1, cell_ext hy hHeld.2.2.2.2.2.2.2.2.1, cell_ext hy hHeld.2.2.2.2.2.2.2.2.2.1, cell_ext hy hHeld.2.2.2.2.2.2.2.2.2.2⟩ | exact ⟨dc0, dc1, dc2, dc3, dc4, dc5, dc6, dc7, dc8, dc9, dc10⟩ | exact hHeld)
  refine wpAnyH_take (i := 0) (oi := _) (v := ?_) rfl (by kernel_rfl) (by kernel_rfl) (by kernel_rfl) (fun _ _ _ h => h) (Or.inl ⟨by rfl, ?_⟩) (by assumption) ?_
  rotate_left
  · (intro w hSw; (try dsimp only at hSw); (try go_simp); (try with_reducible rfl))
  (try simp only [Act.put, List.getElem_toArray, List.getElem_cons_succ, List.getElem_cons_zero, List.setIfInBounds_toArray, List.set_cons_zero, List.set_cons_succ])
  refine wpAnyH_take (i := 1) (oi := _) (v := ?_) rfl (by kernel_rfl) (by kernel_rfl) (by kernel_rfl) (fun _ _ _ h => h) (Or.inl ⟨by rfl, ?_⟩) (by assumption) ?_
  rotate_left
  · (intro w hSw; (try dsimp only at hSw); (try go_simp); (try with_reducible rfl))
  (try simp only [Act.put, List.getElem_toArray, List.getElem_cons_succ, List.getElem_cons_zero, List.setIfInBounds_toArray, List.set_cons_zero, List.set_cons_succ])
  refine wpAnyH_take (i := 3) (oi := _) (v := ?_) rfl (by kernel_rfl) (by kernel_rfl) (by kernel_rfl) (fun _ _ _ h => h) (Or.inl ⟨by rfl, ?_⟩) (by assumption) ?_
  rotate_left
  · (intro w hSw; (try dsimp only at hSw); (try go_simp); (try with_reducible rfl))
  (try simp only [Act.put, List.getElem_toArray, List.getElem_cons_succ, List.getElem_cons_zero, List.setIfInBounds_toArray, List.set_cons_zero, List.set_cons_succ])
  refine wpAnyH_take (i := 4) (oi := _) (v := ?_) rfl (by kernel_rfl) (by kernel_rfl) (by kernel_rfl) (fun _ _ _ h => h) (Or.inl ⟨by rfl, ?_⟩) (by assumption) ?_
  rotate_left
  · (intro w hSw; (try dsimp only at hSw); (try go_simp); (try with_reducible rfl))
  (try simp only [Act.put, List.getElem_toArray, List.getElem_cons_succ, List.getElem_cons_zero, List.setIfInBounds_toArray, List.set_cons_zero, List.set_cons_succ])
  refine wpAnyH_take (i := 10) (oi := _) (v := ?_) rfl (by kernel_rfl) (by kernel_rfl) (by kernel_rfl) (fun _ _ _ h => h) (Or.inl ⟨by rfl, ?_⟩) (by assumption) ?_
  rotate_left
  · (intro w hSw; (try dsimp only at hSw); (try go_simp); (try with_reducible rfl))
  (try simp only [Act.put, List.getElem_toArray, List.getElem_cons_succ, List.getElem_cons_zero, List.setIfInBounds_toArray, List.set_cons_zero, List.set_cons_succ])
  refine wpAnyH_take (i := 11) (oi := _) (v := ?_) rfl (by kernel_rfl) (by kernel_rfl) (by kernel_rfl) (fun _ _ _ h => h) (Or.inl ⟨by rfl, ?_⟩) (by assumption) ?_
  rotate_left
  · (intro w hSw; (try dsimp only at hSw); (try go_simp); (try with_reducible rfl))
  (try simp only [Act.put, List.getElem_toArray, List.getElem_cons_succ, List.getElem_cons_zero, List.setIfInBounds_toArray, List.set_cons_zero, List.set_cons_succ])
  refine wpAnyH_ready (rs := [2]) (by kernel_rfl) (by simp) ?_
  refine AllReadyH.cons (o := _) rfl (fun K hK => ?_) ?_
  · go_simp
    (with_reducible refine (calc_mul pc _ (KC.out.ext hE) (Va.out.ext hE) (Vd.out.ext hE) La.out Ld.out L1.out).mono ?_); rintro e y1 ⟨v1, rfl, hv1, hy⟩; have hv1 := hv1.val; have hE := hE.trans hy
    refine hK.out _ _ ?_ (fun hHeld2 => ?_)
    · (first | exact ⟨cell_ext hy hHeld.1, cell_ext hy hHeld.2.1, cell_ext hy hHeld.2.2.1, cell_ext hy hHeld.2.2.2.1, cell_ext hy hHeld.2.2.2.2.1, cell_ext hy hHeld.2.2.2.2.2.1, cell_ext hy hHeld.2.2.2.2.2.2.1, cell_ext hy hHeld.2.2.2.2.2.2.2.1, cell_ext hy hHeld.2.2.2.2.2.2.2.2.1, cell_ext hy hHeld.2.2.2.2.2.2.2.2.2.1, cell_ext hy hHeld.2.2.2.2.2.2.2.2.2.2⟩ | exact ⟨dc0, dc1, dc2, dc3, dc4, dc5, dc6, dc7, dc8, dc9, dc10⟩ | exact hHeld)
    clear hK K hHeld
    have hHeld := hHeld2
    clear hHeld2
    (try simp only [Act.put, List.getElem_toArray, List.getElem_cons_succ, List.getElem_cons_zero, List.setIfInBounds_toArray, List.set_cons_zero, List.set_cons_succ])
    refine wpAnyH_ready (rs := [5]) (by kernel_rfl) (by simp) ?_
    refine AllReadyH.cons (o := _) rfl (fun K hK => ?_) ?_
    · go_simp
      (with_reducible refine (calc_mul pc _ (KC.out.ext hE) (Vb.out.ext hE) (Vd.out.ext hE) Lb.out Ld.out L2.out).mono ?_); rintro e y2 ⟨v2, rfl, hv2, hy⟩; have hv1 := hv1.ext hy; have hv2 := hv2.val; have hE := hE.trans hy
      refine hK.out _ _ ?_ (fun hHeld2 => ?_)
      · (first | exact ⟨cell_ext hy hHeld.1, cell_ext hy hHeld.2.1, cell_ext hy hHeld.2.2.1, cell_ext hy hHeld.2.2.2.1, cell_ext hy hHeld.2.2.2.2.1, cell_ext hy hHeld.2.2.2.2.2.1, cell_ext hy hHeld.2.2.2.2.2.2.1, cell_ext hy hHeld.2.2.2.2.2.2.2.1, cell_ext hy hHeld.2.2.2.2.2.2.2.2.1, cell_ext hy hHeld.2.2.2.2.2.2.2.2.2.1, cell_ext hy hHeld.2.2.2.2.2.2.2.2.2.2⟩ | exact ⟨dc0, dc1, dc2, dc3, dc4, dc5, dc6, dc7, dc8, dc9, dc10⟩ | exact hHeld)
      clear hK K hHeld
      have hHeld := hHeld2
      clear hHeld2
      (try simp only [Act.put, List.getElem_toArray, List.getElem_cons_succ, List.getElem_cons_zero, List.setIfInBounds_toArray, List.set_cons_zero, List.set_cons_succ])
      refine wpAnyH_ready (rs := [6]) (by kernel_rfl) (by simp) ?_
      refine AllReadyH.cons (o := _) rfl (fun K hK => ?_) ?_
      · go_simp
        (with_reducible refine (gcd_any hv1 hv2 L1.out L2.out).mono ?_); rintro e y3 ⟨v3, rfl, hv3, hy⟩; have hE := hE.trans hy
        refine hK.out _ _ ?_ (fun hHeld2 => ?_)
        · (first | exact ⟨cell_ext hy hHeld.1, cell_ext hy hHeld.2.1, cell_ext hy hHeld.2.2.1, cell_ext hy hHeld.2.2.2.1, cell_ext hy hHeld.2.2.2.2.1, cell_ext hy hHeld.2.2.2.2.2.1, cell_ext hy hHeld.2.2.2.2.2.2.1, cell_ext hy hHeld.2.2.2.2.2.2.2.1, cell_ext hy hHeld.2.2.2.2.2.2.2.2.1, cell_ext hy hHeld.2.2.2.2.2.2.2.2.2.1, cell_ext hy hHeld.2.2.2.2.2.2.2.2.2.2⟩ | exact ⟨dc0, dc1, dc2, dc3, dc4, dc5, dc6, dc7, dc8, dc9, dc10⟩ | exact hHeld)
        clear hK K hHeld
        have hHeld := hHeld2
        clear hHeld2
        (try simp only [Act.put, List.getElem_toArray, List.getElem_cons_succ, List.getElem_cons_zero, List.setIfInBounds_toArray, List.set_cons_zero, List.set_cons_succ])
        refine wpAnyH_take (i := 7) (oi := _) (v := ?_) rfl (by kernel_rfl) (by kernel_rfl) (by kernel_rfl) (fun _ _ _ h => h) (Or.inl ⟨by rfl, ?_⟩) (by assumption) ?_
        rotate_left
        · (intro w hSw; (try dsimp only at hSw); (try go_simp); (try with_reducible rfl))
        (try simp only [Act.put, List.getElem_toArray, List.getElem_cons_succ, List.getElem_cons_zero, List.setIfInBounds_toArray, List.set_cons_zero, List.set_cons_succ])
        refine wpAnyH_take (i := 8) (oi := _) (v := ?_) rfl (by kernel_rfl) (by kernel_rfl) (by kernel_rfl) (fun _ _ _ h => h) (Or.inl ⟨by rfl, ?_⟩) (by assumption) ?_
        rotate_left
        · (intro w hSw; (try dsimp only at hSw); (try go_simp); (try with_reducible rfl))
        (try simp only [Act.put, List.getElem_toArray, List.getElem_cons_succ, List.getElem_cons_zero, List.setIfInBounds_toArray, List.set_cons_zero, List.set_cons_succ])
        refine wpAnyH_ready (rs := [9]) (by kernel_rfl) (by simp) ?_
        refine AllReadyH.cons (o := _) rfl (fun K hK => ?_) ?_
        · go_simp
          (with_reducible refine (of_val pc (KC.out.ext hE) hv3 L4.out).mono ?_); rintro e y4 ⟨rfl, hy⟩; have hv3 := hv3.ext hy; have hE := hE.trans hy
          refine hK.out _ _ ?_ (fun hHeld2 => ?_)
          · (first | exact ⟨cell_ext hy hHeld.1, cell_ext hy hHeld.2.1, cell_ext hy hHeld.2.2.1, cell_ext hy hHeld.2.2.2.1, cell_ext hy hHeld.2.2.2.2.1, cell_ext hy hHeld.2.2.2.2.2.1, cell_ext hy hHeld.2.2.2.2.2.2.1, cell_ext hy hHeld.2.2.2.2.2.2.2.1, cell_ext hy hHeld.2.2.2.2.2.2.2.2.1, cell_ext hy hHeld.2.2.2.2.2.2.2.2.2.1, cell_ext hy hHeld.2.2.2.2.2.2.2.2.2.2⟩ | exact ⟨dc0, dc1, dc2, dc3, dc4, dc5, dc6, dc7, dc8, dc9, dc10⟩ | exact hHeld)
          clear hK K hHeld
          have hHeld := hHeld2
          clear hHeld2
          (try simp only [Act.put, List.getElem_toArray, List.getElem_cons_succ, List.getElem_cons_zero, List.setIfInBounds_toArray, List.set_cons_zero, List.set_cons_succ])
          refine wpAnyH_ready (rs := [12]) (by kernel_rfl) (by simp) ?_
          refine AllReadyH.cons (o := _) rfl (fun K hK => ?_) ?_
          · go_simp
            (with_reducible refine (calc_mul pc _ (KC.out.ext hE) (Vg.out.ext hE) (Vs.out.ext hE) Lg.out Ls.out L3.out).mono ?_); rintro e y5 ⟨v5, rfl, hv5, hy⟩; have hv3 := hv3.ext hy; have hv5 := hv5.val; have hE := hE.trans hy
            refine hK.out _ _ ?_ (fun hHeld2 => ?_)
            · (first | exact ⟨cell_ext hy hHeld.1, cell_ext hy hHeld.2.1, cell_ext hy hHeld.2.2.1, cell_ext hy hHeld.2.2.2.1, cell_ext hy hHeld.2.2.2.2.1, cell_ext hy hHeld.2.2.2.2.2.1, cell_ext hy hHeld.2.2.2.2.2.2.1, cell_ext hy hHeld.2.2.2.2.2.2.2.1, cell_ext hy hHeld.2.2.2.2.2.2.2.2.1, cell_ext hy hHeld.2.2.2.2.2.2.2.2.2.1, cell_ext hy hHeld.2.2.2.2.2.2.2.2.2.2⟩ | exact ⟨dc0, dc1, dc2, dc3, dc4, dc5, dc6, dc7, dc8, dc9, dc10⟩ | exact hHeld)
            clear hK K hHeld
            have hHeld := hHeld2
            clear hHeld2
            (try simp only [Act.put, List.getElem_toArray, List.getElem_cons_succ, List.getElem_cons_zero, List.setIfInBounds_toArray, List.set_cons_zero, List.set_cons_succ])
            refine wpAnyH_ready (rs := [13]) (by kernel_rfl) (by simp) ?_
            refine AllReadyH.cons (o := _) rfl (fun K hK => ?_) ?_
            · go_simp
              (with_reducible refine (sameT hv3 hv5 HE.out).mono ?_); rintro e y6 ⟨rfl, hy⟩; have hE := hE.trans hy
              refine hK.out _ _ ?_ (fun hHeld2 => ?_)
              · (first | exact ⟨cell_ext hy hHeld.1, cell_ext hy hHeld.2.1, cell_ext hy hHeld.2.2.1, cell_ext hy hHeld.2.2.2.1, cell_ext hy hHeld.2.2.2.2.1, cell_ext hy hHeld.2.2.2.2.2.1, cell_ext hy hHeld.2.2.2.2.2.2.1, cell_ext hy hHeld.2.2.2.2.2.2.2.1, cell_ext hy hHeld.2.2.2.2.2.2.2.2.1, cell_ext hy hHeld.2.2.2.2.2.2.2.2.2.1, cell_ext hy hHeld.2.2.2.2.2.2.2.2.2.2⟩ | exact ⟨dc0, dc1, dc2, dc3, dc4, dc5, dc6, dc7, dc8, dc9, dc10⟩ | exact hHeld)
              clear hK K hHeld
              have hHeld := hHeld2
              clear hHeld2
              (try simp only [Act.put, List.getElem_toArray, List.getElem_cons_succ, List.getElem_cons_zero, List.setIfInBounds_toArray, List.set_cons_zero, List.set_cons_succ])
              refine wpAnyH_take (i := 14) (oi := _) (v := ?_) rfl (by kernel_rfl) (by kernel_rfl) (by kernel_rfl) (fun _ _ _ h => h) (Or.inl ⟨by rfl, ?_⟩) (by assumption) ?_
              rotate_left
              · (intro w hSw; (try dsimp only at hSw); (try go_simp); (try with_reducible rfl))
              (try simp only [Act.put, List.getElem_toArray, List.getElem_cons_succ, List.getElem_cons_zero, List.setIfInBounds_toArray, List.set_cons_zero, List.set_cons_succ])
              refine wpAnyH_take (i := 15) (oi := _) (v := ?_) rfl (by kernel_rfl) (by kernel_rfl) (by kernel_rfl) (fun _ _ _ h => h) (Or.inl ⟨by rfl, ?_⟩) (by assumption) ?_
              rotate_left
              · (intro w hSw; (try dsimp only at hSw); (try go_simp); (try with_reducible rfl))
              (try simp only [Act.put, List.getElem_toArray, List.getElem_cons_succ, List.getElem_cons_zero, List.setIfInBounds_toArray, List.set_cons_zero, List.set_cons_succ])
              refine wpAnyH_take (i := 16) (oi := _) (v := ?_) rfl (by kernel_rfl) (by kernel_rfl) (by kernel_rfl) (fun _ _ _ h => h) (Or.inl ⟨by rfl, ?_⟩) (by assumption) ?_
              rotate_left
              · (intro w hSw; (try dsimp only at hSw); (try go_simp); (try with_reducible rfl))
              (try simp only [Act.put, List.getElem_toArray, List.getElem_cons_succ, List.getElem_cons_zero, List.setIfInBounds_toArray, List.set_cons_zero, List.set_cons_succ])
              refine wpAnyH_take (i := 17) (oi := _) (v := ?_) rfl (by kernel_rfl) (by kernel_rfl) (by kernel_rfl) (fun _ _ _ h => h) (Or.inl ⟨by rfl, ?_⟩) (by assumption) ?_
              rotate_left
              · (intro w hSw; (try dsimp only at hSw); (try go_simp); (try with_reducible rfl))
              (try simp only [Act.put, List.getElem_toArray, List.getElem_cons_succ, List.getElem_cons_zero, List.setIfInBounds_toArray, List.set_cons_zero, List.set_cons_succ])
              refine wpAnyH_take (i := 18) (oi := _) (v := ?_) rfl (by kernel_rfl) (by kernel_rfl) (by kernel_rfl) (fun _ _ _ h => h) (Or.inl ⟨by rfl, ?_⟩) (by assumption) ?_
              rotate_left
              · (intro w hSw; (try dsimp only at hSw); (try go_simp); (try with_reducible rfl))
              (try simp only [Act.put, List.getElem_toArray, List.getElem_cons_succ, List.getElem_cons_zero, List.setIfInBounds_toArray, List.set_cons_zero, List.set_cons_succ])
              refine wpAnyH_take (i := 19) (oi := _) (v := ?_) rfl (by kernel_rfl) (by kernel_rfl) (by kernel_rfl) (fun _ _ _ h => h) (Or.inl ⟨by rfl, ?_⟩) (by assumption) ?_
              rotate_left
              · (intro w hSw; (try dsimp only at hSw); (try go_simp); (try with_reducible rfl))
              (try simp only [Act.put, List.getElem_toArray, List.getElem_cons_succ, List.getElem_cons_zero, List.setIfInBounds_toArray, List.set_cons_zero, List.set_cons_succ])
              refine wpAnyH_done (by kernel_rfl) ?_ _
              (go_wp2_with fail; go_ret; exact ⟨rfl, hx.trans hE⟩)
            exact AllReadyH.nil
          exact AllReadyH.nil
        exact AllReadyH.nil
      exact AllReadyH.nil
    exact AllReadyH.nil
  exact AllReadyH.nil
theorem law_Gcd (na nb nd : Bool) (aa ab ad : Option Addr) (ca cb cd : Nat) (l m k : List Int) (w : World) (ha : Ints w aa ca l) (hb : Ints w ab cb m) (hd : Ints w ad cd k) :
    Calls Tryd.prog 7 #[.agg #[.bool na, .slice aa l.length ca], .agg #[.bool nb, .slice ab m.length cb], .agg #[.bool nd, .slice ad k.length cd]] w fun e w' => e = .returned (.bool true) ∧ Ext w w' := by
  cases hv : ([⟨na, aa, ca, l⟩, ⟨nb, ab, cb, m⟩, ⟨nd, ad, cd, k⟩] : List BigA).any (fun x => !okA x)
  · have hv' : ∀ x ∈ ([⟨na, aa, ca, l⟩, ⟨nb, ab, cb, m⟩, ⟨nd, ad, cd, k⟩] : List BigA), okA x = true := fun x hx => by
      have := List.any_eq_false.1 hv x hx
      simpa using this
    by_cases h1 : sgn nd (dval k) ∣ sgn na (dval l)
    · by_cases h2 : sgn nd (dval k) ∣ sgn nb (dval m)
      · exact law_Gcd3 na nb nd aa ab ad _ _ _ ca cb cd l m k w ha hb hd rfl rfl rfl hv' ⟨h1, h2⟩
      · exact law_Gcd2 na nb nd aa ab ad _ _ _ ca cb cd l m k w ha hb hd rfl rfl rfl hv' ⟨h1, h2⟩
    · exact law_Gcd1 na nb nd aa ab ad _ _ _ ca cb cd l m k w ha hb hd rfl rfl rfl hv' h1
  · exact law_Gcd0 na nb nd aa ab ad _ _ _ ca cb cd l m k w ha hb hd rfl rfl rfl hv
end Go.Proofs.YtpaaanbcadlhiaaDoor
