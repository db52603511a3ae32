import Derived.Test.YtpaaanbcadlhiaaDoorPLGcd0
import Derived.Test.YtpaaanbcadlhiaaDoorPLaw1
import Derived.Deep.DeepCutAuto
namespace Go.Proofs.YtpaaanbcadlhiaaDoor
open Go.RowKit Go BigFrame
set_option maxRecDepth 100000
set_option linter.unusedSimpArgs false
set_option linter.unusedVariables false

theorem bigRow4 {W : World} {g : Nat} {n1 n2 n3 n4 : Bool} {a1 a2 a3 a4 : Option Addr} {c1 c2 c3 c4 : Nat} {l1 l2 l3 l4 : List Int} {t : TypeId} (h : Blk W g #[.bool n1, .slice a1 l1.length c1, .bool n2, .slice a2 l2.length c2, .bool n3, .slice a3 l3.length c3, .bool n4, .slice a4 l4.length c4] t) (h1 : Ints W a1 c1 l1) (h2 : Ints W a2 c2 l2) (h3 : Ints W a3 c3 l3) (h4 : Ints W a4 c4 l4) :
    BigRow W g [⟨n1, a1, c1, l1⟩, ⟨n2, a2, c2, l2⟩, ⟨n3, a3, c3, l3⟩, ⟨n4, a4, c4, l4⟩] where
  c0 := fun i hi => by
    match i, hi with
    | 0, _ => exact h.cell rfl
    | 1, _ => exact h.cell rfl
    | 2, _ => exact h.cell rfl
    | 3, _ => exact h.cell rfl
  c1 := fun i hi => by
    match i, hi with
    | 0, _ => exact h.cell rfl
    | 1, _ => exact h.cell rfl
    | 2, _ => exact h.cell rfl
    | 3, _ => exact h.cell rfl
  i := fun i hi => by
    match i, hi with
    | 0, _ => exact h1
    | 1, _ => exact h2
    | 2, _ => exact h3
    | 3, _ => exact h4
theorem okA_z {x : BigA} (h : okA x = true) : Big x.n x.l (sgn x.n (dval x.l)) ∧ (digs (sgn x.n (dval x.l)).natAbs).length ≤ 12 := by
  unfold okA at h
  obtain ⟨h1, h2⟩ := (Bool.and_eq_true _ _).mp h
  have hb := (of_chk h2).1
  refine ⟨hb, ?_⟩
  rw [← hb.digs]
  simpa using h1
theorem lt_mono {z : Int} {n m : Nat} (h : z.natAbs < 1073741824 ^ n) (hn : n ≤ m) : z.natAbs < 1073741824 ^ m := Nat.lt_of_lt_of_le h (Nat.pow_le_pow_right (by omega) hn)
theorem div_lt {x y : Int} {n : Nat} (hx : x.natAbs < 1073741824 ^ n) : (x / y).natAbs < 1073741824 ^ n := Nat.lt_of_le_of_lt (Int.natAbs_ediv_le_natAbs x y) hx
theorem mod_lt {x y : Int} {n : Nat} (hy : y.natAbs < 1073741824 ^ n) (h0 : y ≠ 0) : (x % y).natAbs < 1073741824 ^ n := by
  have h1 := Int.emod_nonneg x h0
  have h2 := Int.emod_lt x h0
  omega
theorem quo_unique {q r b : Int} (h0 : b ≠ 0) (h1 : 0 ≤ r) (h2 : r < b.natAbs) : (q * b + r) / b = q ∧ (q * b + r) % b = r := by
  have e1 : (q * b + r) % b = r := by
    rw [Int.add_comm, Int.add_mul_emod_self_right]
    rcases Int.lt_or_lt_of_ne h0 with h | h
    · rw [← Int.emod_neg]; exact Int.emod_eq_of_lt h1 (by omega)
    · exact Int.emod_eq_of_lt h1 (by omega)
  refine ⟨?_, e1⟩
  have e2 := Int.mul_ediv_add_emod (q * b + r) b
  rw [e1] at e2
  have e3 : b * ((q * b + r) / b) = b * q := by rw [Int.mul_comm b q]; omega
  exact Int.eq_of_mul_eq_mul_left h0 e3

set_option maxHeartbeats 8000000 in
theorem law_Dvd0 (na nb nq nr : Bool) (aa ab aq ar : Option Addr) (qa qb qq qr ca cb cq cr : Nat) (la_ lb_ lq_ lr_ : List Int) (w : World) (ha : Ints w aa ca la_) (hb : Ints w ab cb lb_) (hq : Ints w aq cq lq_) (hr : Ints w ar cr lr_) (la : la_.length = qa) (lb : lb_.length = qb) (lq : lq_.length = qq) (lr : lr_.length = qr) (hv : (([⟨na, aa, ca, la_⟩, ⟨nb, ab, cb, lb_⟩, ⟨nq, aq, cq, lq_⟩, ⟨nr, ar, cr, lr_⟩] : List BigA)).any (fun x => !okA x) = true) :
    Calls Tryd.prog 10 #[.agg #[.bool na, .slice aa qa ca], .agg #[.bool nb, .slice ab qb cb], .agg #[.bool nq, .slice aq qq cq], .agg #[.bool nr, .slice ar qr cr]] w fun e w' => e = .returned (.bool true) ∧ Ext w w' := by
  have HIa := Lib.hid ha
  have HLa := Lib.hid la
  have HIb := Lib.hid hb
  have HLb := Lib.hid lb
  have HIq := Lib.hid hq
  have HLq := Lib.hid lq
  have HIr := Lib.hid hr
  have HLr := Lib.hid lr
  have HV := Lib.hid hv
  clear la lb lq lr ha hb hq hr hv
  have hx : Ext w (((((w).alloc (.cells #[.bool na, .slice aa qa ca] 24)).alloc (.cells #[.bool nb, .slice ab qb cb] 24)).alloc (.cells #[.bool nq, .slice aq qq cq] 24)).alloc (.cells #[.bool nr, .slice ar qr cr] 24)) := (by repeat (first | with_reducible exact Ext.refl _ | with_reducible assumption | with_reducible refine Ext.drewN ?_ _ | with_reducible refine Ext.drew ?_ | with_reducible refine Ext.alloc' ?_ _ | with_reducible refine Ext.set ?_ (by dsimp only; omega) _))
  have Ka : Blk (((((w).alloc (.cells #[.bool na, .slice aa qa ca] 24)).alloc (.cells #[.bool nb, .slice ab qb cb] 24)).alloc (.cells #[.bool nq, .slice aq qq cq] 24)).alloc (.cells #[.bool nr, .slice ar qr cr] 24)) (w.heap.size) #[.bool na, .slice aa qa ca] 24 := by have h := (((Blk.new0 (w) #[.bool na, .slice aa qa ca] 24).alloc (.cells #[.bool nb, .slice ab qb cb] 24)).alloc (.cells #[.bool nq, .slice aq qq cq] 24)).alloc (.cells #[.bool nr, .slice ar qr cr] 24); simpa [Nat.add_assoc] using h
  have Ka := Lib.hid Ka
  have Kb : Blk (((((w).alloc (.cells #[.bool na, .slice aa qa ca] 24)).alloc (.cells #[.bool nb, .slice ab qb cb] 24)).alloc (.cells #[.bool nq, .slice aq qq cq] 24)).alloc (.cells #[.bool nr, .slice ar qr cr] 24)) (w.heap.size + 1) #[.bool nb, .slice ab qb cb] 24 := by have h := ((Blk.new0 ((w).alloc (.cells #[.bool na, .slice aa qa ca] 24)) #[.bool nb, .slice ab qb cb] 24).alloc (.cells #[.bool nq, .slice aq qq cq] 24)).alloc (.cells #[.bool nr, .slice ar qr cr] 24); simpa [Nat.add_assoc] using h
  have Kb := Lib.hid Kb
  have Kq : Blk (((((w).alloc (.cells #[.bool na, .slice aa qa ca] 24)).alloc (.cells #[.bool nb, .slice ab qb cb] 24)).alloc (.cells #[.bool nq, .slice aq qq cq] 24)).alloc (.cells #[.bool nr, .slice ar qr cr] 24)) (w.heap.size + 2) #[.bool nq, .slice aq qq cq] 24 := by have h := (Blk.new0 (((w).alloc (.cells #[.bool na, .slice aa qa ca] 24)).alloc (.cells #[.bool nb, .slice ab qb cb] 24)) #[.bool nq, .slice aq qq cq] 24).alloc (.cells #[.bool nr, .slice ar qr cr] 24); simpa [Nat.add_assoc] using h
  have Kq := Lib.hid Kq
  have Kr : Blk (((((w).alloc (.cells #[.bool na, .slice aa qa ca] 24)).alloc (.cells #[.bool nb, .slice ab qb cb] 24)).alloc (.cells #[.bool nq, .slice aq qq cq] 24)).alloc (.cells #[.bool nr, .slice ar qr cr] 24)) (w.heap.size + 3) #[.bool nr, .slice ar qr cr] 24 := by have h := Blk.new0 ((((w).alloc (.cells #[.bool na, .slice aa qa ca] 24)).alloc (.cells #[.bool nb, .slice ab qb cb] 24)).alloc (.cells #[.bool nq, .slice aq qq cq] 24)) #[.bool nr, .slice ar qr cr] 24; simpa [Nat.add_assoc] using h
  have Kr := Lib.hid Kr
  go_enter Tryd.func10, Tryd.ntmps10
  go_upto_region 1 with fail
  try simp only [Nat.add_assoc, Nat.reduceAdd, Nat.add_zero]
  generalize ((((w).alloc (.cells #[.bool na, .slice aa qa ca] 24)).alloc (.cells #[.bool nb, .slice ab qb cb] 24)).alloc (.cells #[.bool nq, .slice aq qq cq] 24)).alloc (.cells #[.bool nr, .slice ar qr cr] 24) = x1 at *
  go_wp2_with fail
  with_reducible refine (law09Sane _).mono ?_
  rintro e x2 ⟨rfl, hy⟩
  have hx := hx.trans hy
  have Ka := Lib.hid (Ka.out.ext hy)
  have Kb := Lib.hid (Kb.out.ext hy)
  have Kq := Lib.hid (Kq.out.ext hy)
  have Kr := Lib.hid (Kr.out.ext hy)
  clear hy
  have ca0 := Ka.out.cell (i := 0) (v := .bool na) rfl
  have ca1 := Ka.out.cell (i := 1) (v := .slice aa qa ca) rfl
  have cb0 := Kb.out.cell (i := 0) (v := .bool nb) rfl
  have cb1 := Kb.out.cell (i := 1) (v := .slice ab qb cb) rfl
  have cq0 := Kq.out.cell (i := 0) (v := .bool nq) rfl
  have cq1 := Kq.out.cell (i := 1) (v := .slice aq qq cq) rfl
  have cr0 := Kr.out.cell (i := 0) (v := .bool nr) rfl
  have cr1 := Kr.out.cell (i := 1) (v := .slice ar qr cr) rfl
  have hl := Ext.alloc x2 (.cells #[.bool na, .slice aa qa ca, .bool nb, .slice ab qb cb, .bool nq, .slice aq qq cq, .bool nr, .slice ar qr cr] 24)
  have hrow : BigRow (x2.alloc (.cells #[.bool na, .slice aa qa ca, .bool nb, .slice ab qb cb, .bool nq, .slice aq qq cq, .bool nr, .slice ar qr cr] 24)) x2.heap.size [⟨na, aa, ca, la_⟩, ⟨nb, ab, cb, lb_⟩, ⟨nq, aq, cq, lq_⟩, ⟨nr, ar, cr, lr_⟩] := by
    have hB := Blk.new0 x2 #[.bool na, .slice aa qa ca, .bool nb, .slice ab qb cb, .bool nq, .slice aq qq cq, .bool nr, .slice ar qr cr] 24
    have hxl := hx.trans hl
    rw [← HLa.out, ← HLb.out, ← HLq.out, ← HLr.out] at hB hxl ⊢
    exact bigRow4 hB (HIa.out.ext hxl) (HIb.out.ext hxl) (HIq.out.ext hxl) (HIr.out.ext hxl)
  have HROW := Lib.hid hrow
  clear hrow
  have HVAL := Lib.hid (law_valid_no _ _ _ HROW.out (by simp) HV.out)
  simp only [List.length_cons, List.length_nil, Nat.zero_add, Nat.reduceAdd] at HVAL
  go_wp2_with fail
  with_reducible refine (HVAL.out).mono ?_
  rintro e x3 ⟨rfl, hy⟩
  have hx := hx.trans (hl.trans hy)
  have Ka := Lib.hid (Ka.out.ext (hl.trans hy))
  have Kb := Lib.hid (Kb.out.ext (hl.trans hy))
  have Kq := Lib.hid (Kq.out.ext (hl.trans hy))
  have Kr := Lib.hid (Kr.out.ext (hl.trans hy))
  clear hl hy HROW HVAL
  clear ca0 ca1 cb0 cb1 cq0 cq1 cr0 cr1
  go_wp2_with fail
  go_ret
  exact ⟨rfl, hx⟩
set_option maxHeartbeats 8000000 in
theorem law_Dvd1 (na nb nq nr : Bool) (aa ab aq ar : Option Addr) (qa qb qq qr ca cb cq cr : Nat) (la_ lb_ lq_ lr_ : List Int) (w : World) (ha : Ints w aa ca la_) (hb : Ints w ab cb lb_) (hq : Ints w aq cq lq_) (hr : Ints w ar cr lr_) (la : la_.length = qa) (lb : lb_.length = qb) (lq : lq_.length = qq) (lr : lr_.length = qr) (hv : ∀ x ∈ ([⟨na, aa, ca, la_⟩, ⟨nb, ab, cb, lb_⟩, ⟨nq, aq, cq, lq_⟩, ⟨nr, ar, cr, lr_⟩] : List BigA), okA x = true) (h0 : qb = 0) :
    Calls Tryd.prog 10 #[.agg #[.bool na, .slice aa qa ca], .agg #[.bool nb, .slice ab qb cb], .agg #[.bool nq, .slice aq qq cq], .agg #[.bool nr, .slice ar qr cr]] w fun e w' => e = .returned (.bool true) ∧ Ext w w' := by
  have tq : ((qb : Int) == 0) = true := by rw [h0]; rfl
  have tq2 : (qb == 0) = true := by rw [h0]; rfl
  clear h0
  have HIa := Lib.hid ha
  have HLa := Lib.hid la
  have HIb := Lib.hid hb
  have HLb := Lib.hid lb
  have HIq := Lib.hid hq
  have HLq := Lib.hid lq
  have HIr := Lib.hid hr
  have HLr := Lib.hid lr
  have HV := Lib.hid hv
  clear la lb lq lr ha hb hq hr hv
  have hx : Ext w (((((w).alloc (.cells #[.bool na, .slice aa qa ca] 24)).alloc (.cells #[.bool nb, .slice ab qb cb] 24)).alloc (.cells #[.bool nq, .slice aq qq cq] 24)).alloc (.cells #[.bool nr, .slice ar qr cr] 24)) := (by repeat (first | with_reducible exact Ext.refl _ | with_reducible assumption | with_reducible refine Ext.drewN ?_ _ | with_reducible refine Ext.drew ?_ | with_reducible refine Ext.alloc' ?_ _ | with_reducible refine Ext.set ?_ (by dsimp only; omega) _))
  have Ka : Blk (((((w).alloc (.cells #[.bool na, .slice aa qa ca] 24)).alloc (.cells #[.bool nb, .slice ab qb cb] 24)).alloc (.cells #[.bool nq, .slice aq qq cq] 24)).alloc (.cells #[.bool nr, .slice ar qr cr] 24)) (w.heap.size) #[.bool na, .slice aa qa ca] 24 := by have h := (((Blk.new0 (w) #[.bool na, .slice aa qa ca] 24).alloc (.cells #[.bool nb, .slice ab qb cb] 24)).alloc (.cells #[.bool nq, .slice aq qq cq] 24)).alloc (.cells #[.bool nr, .slice ar qr cr] 24); simpa [Nat.add_assoc] using h
  have Ka := Lib.hid Ka
  have Kb : Blk (((((w).alloc (.cells #[.bool na, .slice aa qa ca] 24)).alloc (.cells #[.bool nb, .slice ab qb cb] 24)).alloc (.cells #[.bool nq, .slice aq qq cq] 24)).alloc (.cells #[.bool nr, .slice ar qr cr] 24)) (w.heap.size + 1) #[.bool nb, .slice ab qb cb] 24 := by have h := ((Blk.new0 ((w).alloc (.cells #[.bool na, .slice aa qa ca] 24)) #[.bool nb, .slice ab qb cb] 24).alloc (.cells #[.bool nq, .slice aq qq cq] 24)).alloc (.cells #[.bool nr, .slice ar qr cr] 24); simpa [Nat.add_assoc] using h
  have Kb := Lib.hid Kb
  have Kq : Blk (((((w).alloc (.cells #[.bool na, .slice aa qa ca] 24)).alloc (.cells #[.bool nb, .slice ab qb cb] 24)).alloc (.cells #[.bool nq, .slice aq qq cq] 24)).alloc (.cells #[.bool nr, .slice ar qr cr] 24)) (w.heap.size + 2) #[.bool nq, .slice aq qq cq] 24 := by have h := (Blk.new0 (((w).alloc (.cells #[.bool na, .slice aa qa ca] 24)).alloc (.cells #[.bool nb, .slice ab qb cb] 24)) #[.bool nq, .slice aq qq cq] 24).alloc (.cells #[.bool nr, .slice ar qr cr] 24); simpa [Nat.add_assoc] using h
  have Kq := Lib.hid Kq
  have Kr : Blk (((((w).alloc (.cells #[.bool na, .slice aa qa ca] 24)).alloc (.cells #[.bool nb, .slice ab qb cb] 24)).alloc (.cells #[.bool nq, .slice aq qq cq] 24)).alloc (.cells #[.bool nr, .slice ar qr cr] 24)) (w.heap.size + 3) #[.bool nr, .slice ar qr cr] 24 := by have h := Blk.new0 ((((w).alloc (.cells #[.bool na, .slice aa qa ca] 24)).alloc (.cells #[.bool nb, .slice ab qb cb] 24)).alloc (.cells #[.bool nq, .slice aq qq cq] 24)) #[.bool nr, .slice ar qr cr] 24; simpa [Nat.add_assoc] using h
  have Kr := Lib.hid Kr
  go_enter Tryd.func10, Tryd.ntmps10
  go_upto_region 1 with fail
  try simp only [Nat.add_assoc, Nat.reduceAdd, Nat.add_zero]
  generalize ((((w).alloc (.cells #[.bool na, .slice aa qa ca] 24)).alloc (.cells #[.bool nb, .slice ab qb cb] 24)).alloc (.cells #[.bool nq, .slice aq qq cq] 24)).alloc (.cells #[.bool nr, .slice ar qr cr] 24) = x4 at *
  go_wp2_with fail
  with_reducible refine (law09Sane _).mono ?_
  rintro e x5 ⟨rfl, hy⟩
  have hx := hx.trans hy
  have Ka := Lib.hid (Ka.out.ext hy)
  have Kb := Lib.hid (Kb.out.ext hy)
  have Kq := Lib.hid (Kq.out.ext hy)
  have Kr := Lib.hid (Kr.out.ext hy)
  clear hy
  have ca0 := Ka.out.cell (i := 0) (v := .bool na) rfl
  have ca1 := Ka.out.cell (i := 1) (v := .slice aa qa ca) rfl
  have cb0 := Kb.out.cell (i := 0) (v := .bool nb) rfl
  have cb1 := Kb.out.cell (i := 1) (v := .slice ab qb cb) rfl
  have cq0 := Kq.out.cell (i := 0) (v := .bool nq) rfl
  have cq1 := Kq.out.cell (i := 1) (v := .slice aq qq cq) rfl
  have cr0 := Kr.out.cell (i := 0) (v := .bool nr) rfl
  have cr1 := Kr.out.cell (i := 1) (v := .slice ar qr cr) rfl
  have hl := Ext.alloc x5 (.cells #[.bool na, .slice aa qa ca, .bool nb, .slice ab qb cb, .bool nq, .slice aq qq cq, .bool nr, .slice ar qr cr] 24)
  have hrow : BigRow (x5.alloc (.cells #[.bool na, .slice aa qa ca, .bool nb, .slice ab qb cb, .bool nq, .slice aq qq cq, .bool nr, .slice ar qr cr] 24)) x5.heap.size [⟨na, aa, ca, la_⟩, ⟨nb, ab, cb, lb_⟩, ⟨nq, aq, cq, lq_⟩, ⟨nr, ar, cr, lr_⟩] := by
    have hB := Blk.new0 x5 #[.bool na, .slice aa qa ca, .bool nb, .slice ab qb cb, .bool nq, .slice aq qq cq, .bool nr, .slice ar qr cr] 24
    have hxl := hx.trans hl
    rw [← HLa.out, ← HLb.out, ← HLq.out, ← HLr.out] at hB hxl ⊢
    exact bigRow4 hB (HIa.out.ext hxl) (HIb.out.ext hxl) (HIq.out.ext hxl) (HIr.out.ext hxl)
  have HROW := Lib.hid hrow
  clear hrow
  have HVAL := Lib.hid (law_valid_yes _ _ _ HROW.out (by simp) HV.out)
  simp only [List.length_cons, List.length_nil, Nat.zero_add, Nat.reduceAdd] at HVAL
  go_wp2_with fail
  with_reducible refine (HVAL.out).mono ?_
  rintro e x6 ⟨rfl, hy⟩
  have hx := hx.trans (hl.trans hy)
  have Ka := Lib.hid (Ka.out.ext (hl.trans hy))
  have Kb := Lib.hid (Kb.out.ext (hl.trans hy))
  have Kq := Lib.hid (Kq.out.ext (hl.trans hy))
  have Kr := Lib.hid (Kr.out.ext (hl.trans hy))
  clear hl hy HROW HVAL
  clear ca0 ca1 cb0 cb1 cq0 cq1 cr0 cr1
  have cb0 := Kb.out.cell (i := 0) (v := .bool nb) rfl
  have cb1 := Kb.out.cell (i := 1) (v := .slice ab qb cb) rfl
  go_wp2_with fail
  go_ret
  exact ⟨rfl, hx⟩
set_option maxHeartbeats 8000000 in
theorem law_Dvd2 (na nb nq nr : Bool) (aa ab aq ar : Option Addr) (qa qb qq qr ca cb cq cr : Nat) (la_ lb_ lq_ lr_ : List Int) (w : World) (ha : Ints w aa ca la_) (hb : Ints w ab cb lb_) (hq : Ints w aq cq lq_) (hr : Ints w ar cr lr_) (la : la_.length = qa) (lb : lb_.length = qb) (lq : lq_.length = qq) (lr : lr_.length = qr) (hv : ∀ x ∈ ([⟨na, aa, ca, la_⟩, ⟨nb, ab, cb, lb_⟩, ⟨nq, aq, cq, lq_⟩, ⟨nr, ar, cr, lr_⟩] : List BigA), okA x = true) (h0 : qb ≠ 0) (hn : nr = true) :
    Calls Tryd.prog 10 #[.agg #[.bool na, .slice aa qa ca], .agg #[.bool nb, .slice ab qb cb], .agg #[.bool nq, .slice aq qq cq], .agg #[.bool nr, .slice ar qr cr]] w fun e w' => e = .returned (.bool true) ∧ Ext w w' := by
  have HNR := Lib.hid hn
  clear hn
  have tq : ((qb : Int) == 0) = false := by simp; omega
  have tq2 : (qb == 0) = false := by simp; omega
  have H0 := Lib.hid h0
  clear h0
  have HIa := Lib.hid ha
  have HLa := Lib.hid la
  have HIb := Lib.hid hb
  have HLb := Lib.hid lb
  have HIq := Lib.hid hq
  have HLq := Lib.hid lq
  have HIr := Lib.hid hr
  have HLr := Lib.hid lr
  have HV := Lib.hid hv
  clear la lb lq lr ha hb hq hr hv
  have hx : Ext w (((((w).alloc (.cells #[.bool na, .slice aa qa ca] 24)).alloc (.cells #[.bool nb, .slice ab qb cb] 24)).alloc (.cells #[.bool nq, .slice aq qq cq] 24)).alloc (.cells #[.bool nr, .slice ar qr cr] 24)) := (by repeat (first | with_reducible exact Ext.refl _ | with_reducible assumption | with_reducible refine Ext.drewN ?_ _ | with_reducible refine Ext.drew ?_ | with_reducible refine Ext.alloc' ?_ _ | with_reducible refine Ext.set ?_ (by dsimp only; omega) _))
  have Ka : Blk (((((w).alloc (.cells #[.bool na, .slice aa qa ca] 24)).alloc (.cells #[.bool nb, .slice ab qb cb] 24)).alloc (.cells #[.bool nq, .slice aq qq cq] 24)).alloc (.cells #[.bool nr, .slice ar qr cr] 24)) (w.heap.size) #[.bool na, .slice aa qa ca] 24 := by have h := (((Blk.new0 (w) #[.bool na, .slice aa qa ca] 24).alloc (.cells #[.bool nb, .slice ab qb cb] 24)).alloc (.cells #[.bool nq, .slice aq qq cq] 24)).alloc (.cells #[.bool nr, .slice ar qr cr] 24); simpa [Nat.add_assoc] using h
  have Ka := Lib.hid Ka
  have Kb : Blk (((((w).alloc (.cells #[.bool na, .slice aa qa ca] 24)).alloc (.cells #[.bool nb, .slice ab qb cb] 24)).alloc (.cells #[.bool nq, .slice aq qq cq] 24)).alloc (.cells #[.bool nr, .slice ar qr cr] 24)) (w.heap.size + 1) #[.bool nb, .slice ab qb cb] 24 := by have h := ((Blk.new0 ((w).alloc (.cells #[.bool na, .slice aa qa ca] 24)) #[.bool nb, .slice ab qb cb] 24).alloc (.cells #[.bool nq, .slice aq qq cq] 24)).alloc (.cells #[.bool nr, .slice ar qr cr] 24); simpa [Nat.add_assoc] using h
  have Kb := Lib.hid Kb
  have Kq : Blk (((((w).alloc (.cells #[.bool na, .slice aa qa ca] 24)).alloc (.cells #[.bool nb, .slice ab qb cb] 24)).alloc (.cells #[.bool nq, .slice aq qq cq] 24)).alloc (.cells #[.bool nr, .slice ar qr cr] 24)) (w.heap.size + 2) #[.bool nq, .slice aq qq cq] 24 := by have h := (Blk.new0 (((w).alloc (.cells #[.bool na, .slice aa qa ca] 24)).alloc (.cells #[.bool nb, .slice ab qb cb] 24)) #[.bool nq, .slice aq qq cq] 24).alloc (.cells #[.bool nr, .slice ar qr cr] 24); simpa [Nat.add_assoc] using h
  have Kq := Lib.hid Kq
  have Kr : Blk (((((w).alloc (.cells #[.bool na, .slice aa qa ca] 24)).alloc (.cells #[.bool nb, .slice ab qb cb] 24)).alloc (.cells #[.bool nq, .slice aq qq cq] 24)).alloc (.cells #[.bool nr, .slice ar qr cr] 24)) (w.heap.size + 3) #[.bool nr, .slice ar qr cr] 24 := by have h := Blk.new0 ((((w).alloc (.cells #[.bool na, .slice aa qa ca] 24)).alloc (.cells #[.bool nb, .slice ab qb cb] 24)).alloc (.cells #[.bool nq, .slice aq qq cq] 24)) #[.bool nr, .slice ar qr cr] 24; simpa [Nat.add_assoc] using h
  have Kr := Lib.hid Kr
  go_enter Tryd.func10, Tryd.ntmps10
  go_upto_region 1 with fail
  try simp only [Nat.add_assoc, Nat.reduceAdd, Nat.add_zero]
  generalize ((((w).alloc (.cells #[.bool na, .slice aa qa ca] 24)).alloc (.cells #[.bool nb, .slice ab qb cb] 24)).alloc (.cells #[.bool nq, .slice aq qq cq] 24)).alloc (.cells #[.bool nr, .slice ar qr cr] 24) = x7 at *
  go_wp2_with fail
  with_reducible refine (law09Sane _).mono ?_
  rintro e x8 ⟨rfl, hy⟩
  have hx := hx.trans hy
  have Ka := Lib.hid (Ka.out.ext hy)
  have Kb := Lib.hid (Kb.out.ext hy)
  have Kq := Lib.hid (Kq.out.ext hy)
  have Kr := Lib.hid (Kr.out.ext hy)
  clear hy
  have ca0 := Ka.out.cell (i := 0) (v := .bool na) rfl
  have ca1 := Ka.out.cell (i := 1) (v := .slice aa qa ca) rfl
  have cb0 := Kb.out.cell (i := 0) (v := .bool nb) rfl
  have cb1 := Kb.out.cell (i := 1) (v := .slice ab qb cb) rfl
  have cq0 := Kq.out.cell (i := 0) (v := .bool nq) rfl
  have cq1 := Kq.out.cell (i := 1) (v := .slice aq qq cq) rfl
  have cr0 := Kr.out.cell (i := 0) (v := .bool nr) rfl
  have cr1 := Kr.out.cell (i := 1) (v := .slice ar qr cr) rfl
  have hl := Ext.alloc x8 (.cells #[.bool na, .slice aa qa ca, .bool nb, .slice ab qb cb, .bool nq, .slice aq qq cq, .bool nr, .slice ar qr cr] 24)
  have hrow : BigRow (x8.alloc (.cells #[.bool na, .slice aa qa ca, .bool nb, .slice ab qb cb, .bool nq, .slice aq qq cq, .bool nr, .slice ar qr cr] 24)) x8.heap.size [⟨na, aa, ca, la_⟩, ⟨nb, ab, cb, lb_⟩, ⟨nq, aq, cq, lq_⟩, ⟨nr, ar, cr, lr_⟩] := by
    have hB := Blk.new0 x8 #[.bool na, .slice aa qa ca, .bool nb, .slice ab qb cb, .bool nq, .slice aq qq cq, .bool nr, .slice ar qr cr] 24
    have hxl := hx.trans hl
    rw [← HLa.out, ← HLb.out, ← HLq.out, ← HLr.out] at hB hxl ⊢
    exact bigRow4 hB (HIa.out.ext hxl) (HIb.out.ext hxl) (HIq.out.ext hxl) (HIr.out.ext hxl)
  have HROW := Lib.hid hrow
  clear hrow
  have HVAL := Lib.hid (law_valid_yes _ _ _ HROW.out (by simp) HV.out)
  simp only [List.length_cons, List.length_nil, Nat.zero_add, Nat.reduceAdd] at HVAL
  go_wp2_with fail
  with_reducible refine (HVAL.out).mono ?_
  rintro e x9 ⟨rfl, hy⟩
  have hx := hx.trans (hl.trans hy)
  have Ka := Lib.hid (Ka.out.ext (hl.trans hy))
  have Kb := Lib.hid (Kb.out.ext (hl.trans hy))
  have Kq := Lib.hid (Kq.out.ext (hl.trans hy))
  have Kr := Lib.hid (Kr.out.ext (hl.trans hy))
  clear hl hy HROW HVAL
  clear ca0 ca1 cb0 cb1 cq0 cq1 cr0 cr1
  have cb0 := Kb.out.cell (i := 0) (v := .bool nb) rfl
  have cb1 := Kb.out.cell (i := 1) (v := .slice ab qb cb) rfl
  go_upto_region 5 with fail
  clear cb0 cb1
  obtain ⟨hBa, hDa⟩ := okA_z (HV.out _ (show (⟨na, aa, ca, la_⟩ : BigA) ∈ ([⟨na, aa, ca, la_⟩, ⟨nb, ab, cb, lb_⟩, ⟨nq, aq, cq, lq_⟩, ⟨nr, ar, cr, lr_⟩] : List BigA) from by simp))
  obtain ⟨za, hza⟩ : ∃ z, sgn na (dval la_) = z := ⟨_, rfl⟩
  have Va : Hid (BigV w (.agg #[.bool na, .slice aa qa ca]) za) := Lib.hid ⟨na, la_, ⟨aa, ca, by rw [HLa.out], HIa.out⟩, by rw [← hza]; exact hBa⟩
  have Va := Lib.hid (Va.out.ext hx)
  have Da : Hid (za.natAbs < 1073741824 ^ 12) := Lib.hid (abs_lt (by rw [← hza]; exact hDa))
  have La : Hid (Len za) := Lib.hid (len_lt Da.out (by omega))
  obtain ⟨hBb, hDb⟩ := okA_z (HV.out _ (show (⟨nb, ab, cb, lb_⟩ : BigA) ∈ ([⟨na, aa, ca, la_⟩, ⟨nb, ab, cb, lb_⟩, ⟨nq, aq, cq, lq_⟩, ⟨nr, ar, cr, lr_⟩] : List BigA) from by simp))
  obtain ⟨zb, hzb⟩ : ∃ z, sgn nb (dval lb_) = z := ⟨_, rfl⟩
  have Vb : Hid (BigV w (.agg #[.bool nb, .slice ab qb cb]) zb) := Lib.hid ⟨nb, lb_, ⟨ab, cb, by rw [HLb.out], HIb.out⟩, by rw [← hzb]; exact hBb⟩
  have Vb := Lib.hid (Vb.out.ext hx)
  have Db : Hid (zb.natAbs < 1073741824 ^ 12) := Lib.hid (abs_lt (by rw [← hzb]; exact hDb))
  have Lb : Hid (Len zb) := Lib.hid (len_lt Db.out (by omega))
  obtain ⟨hBq, hDq⟩ := okA_z (HV.out _ (show (⟨nq, aq, cq, lq_⟩ : BigA) ∈ ([⟨na, aa, ca, la_⟩, ⟨nb, ab, cb, lb_⟩, ⟨nq, aq, cq, lq_⟩, ⟨nr, ar, cr, lr_⟩] : List BigA) from by simp))
  obtain ⟨zq, hzq⟩ : ∃ z, sgn nq (dval lq_) = z := ⟨_, rfl⟩
  have Vq : Hid (BigV w (.agg #[.bool nq, .slice aq qq cq]) zq) := Lib.hid ⟨nq, lq_, ⟨aq, cq, by rw [HLq.out], HIq.out⟩, by rw [← hzq]; exact hBq⟩
  have Vq := Lib.hid (Vq.out.ext hx)
  have Dq : Hid (zq.natAbs < 1073741824 ^ 12) := Lib.hid (abs_lt (by rw [← hzq]; exact hDq))
  have Lq : Hid (Len zq) := Lib.hid (len_lt Dq.out (by omega))
  obtain ⟨hBr, hDr⟩ := okA_z (HV.out _ (show (⟨nr, ar, cr, lr_⟩ : BigA) ∈ ([⟨na, aa, ca, la_⟩, ⟨nb, ab, cb, lb_⟩, ⟨nq, aq, cq, lq_⟩, ⟨nr, ar, cr, lr_⟩] : List BigA) from by simp))
  obtain ⟨zr, hzr⟩ : ∃ z, sgn nr (dval lr_) = z := ⟨_, rfl⟩
  have Vr : Hid (BigV w (.agg #[.bool nr, .slice ar qr cr]) zr) := Lib.hid ⟨nr, lr_, ⟨ar, cr, by rw [HLr.out], HIr.out⟩, by rw [← hzr]; exact hBr⟩
  have Vr := Lib.hid (Vr.out.ext hx)
  have Dr : Hid (zr.natAbs < 1073741824 ^ 12) := Lib.hid (abs_lt (by rw [← hzr]; exact hDr))
  have Lr : Hid (Len zr) := Lib.hid (len_lt Dr.out (by omega))
  have HB0 : Hid (zb ≠ 0) := Lib.hid (fun e => H0.out (Vb.out.len0.2 e))
  clear hBa hDa hza hBb hDb hzb hBq hDq hzq hBr hDr hzr
  go_upto_region 6 with fail
  have hl := Ext.alloc x9 (.cells #[.bool false] 49)
  have hx := hx.trans hl
  have Ka := Lib.hid (Ka.out.ext hl)
  have Kb := Lib.hid (Kb.out.ext hl)
  have Kq := Lib.hid (Kq.out.ext hl)
  have Kr := Lib.hid (Kr.out.ext hl)
  have Va := Lib.hid (Va.out.ext hl)
  have Vb := Lib.hid (Vb.out.ext hl)
  have Vq := Lib.hid (Vq.out.ext hl)
  have Vr := Lib.hid (Vr.out.ext hl)
  have KC := Lib.hid (Blk.new0 x9 #[.bool false] 49)
  clear hl
  generalize x9.alloc (.cells #[.bool false] 49) = x10 at *
  generalize x9.heap.size = pc at *
  have cb0 := Kb.out.cell (i := 0) (v := .bool nb) rfl
  have cb1 := Kb.out.cell (i := 1) (v := .slice ab qb cb) rfl
  go_upto_region 8 with fail
  have hl := Ext.alloc x10 (.cells #[.bool false, .slice ab qb cb] 24)
  have hx := hx.trans hl
  have Ka := Lib.hid (Ka.out.ext hl)
  have Kb := Lib.hid (Kb.out.ext hl)
  have Kq := Lib.hid (Kq.out.ext hl)
  have Kr := Lib.hid (Kr.out.ext hl)
  have Va := Lib.hid (Va.out.ext hl)
  have Vb := Lib.hid (Vb.out.ext hl)
  have Vq := Lib.hid (Vq.out.ext hl)
  have Vr := Lib.hid (Vr.out.ext hl)
  have KC := Lib.hid (KC.out.ext hl)
  have Ks := Lib.hid (Blk.new0 x10 #[.bool false, .slice ab qb cb] 24)
  clear hl cb0 cb1
  generalize x10.alloc (.cells #[.bool false, .slice ab qb cb] 24) = x11 at *
  generalize x10.heap.size = ps at *
  have Vs := Lib.hid Vb.out.abs
  have Ds : Hid ((zb.natAbs : Int).natAbs < 1073741824 ^ 12) := Lib.hid (by rw [Int.natAbs_natCast]; exact Db.out)
  have Ls := Lib.hid (len_lt Ds.out (by omega))
  have ca0 := Ka.out.cell (i := 0) (v := .bool na) rfl
  have ca1 := Ka.out.cell (i := 1) (v := .slice aa qa ca) rfl
  have cb0 := Kb.out.cell (i := 0) (v := .bool nb) rfl
  have cb1 := Kb.out.cell (i := 1) (v := .slice ab qb cb) rfl
  go_wp2_with fail
  with_reducible refine (div_any Va.out Vb.out La.out Lb.out HB0.out).mono ?_
  rintro e x12 ⟨v, u, rfl, hv, hu, hy⟩
  have hx := hx.trans hy
  have Ka := Lib.hid (Ka.out.ext hy)
  have Kb := Lib.hid (Kb.out.ext hy)
  have Kq := Lib.hid (Kq.out.ext hy)
  have Kr := Lib.hid (Kr.out.ext hy)
  have Va := Lib.hid (Va.out.ext hy)
  have Vb := Lib.hid (Vb.out.ext hy)
  have Vq := Lib.hid (Vq.out.ext hy)
  have Vr := Lib.hid (Vr.out.ext hy)
  have KC := Lib.hid (KC.out.ext hy)
  have Ks := Lib.hid (Ks.out.ext hy)
  have Vs := Lib.hid (Vs.out.ext hy)
  clear hy
  obtain ⟨nx, ax, qx, cx, rfl⟩ := hv.form
  obtain ⟨ny, ay, qy, cy, rfl⟩ := hu.form
  have hny : ny = false := hu.pos (Int.emod_nonneg _ HB0.out)
  subst hny
  have Vx := Lib.hid hv
  have Vy := Lib.hid hu
  clear hv hu
  clear ca0 ca1 cb0 cb1
  go_upto_region 9 with fail
  have hl : Ext x12 ((x12.alloc (.cells #[.bool nx, .slice ax qx cx] 24)).alloc (.cells #[.bool false, .slice ay qy cy] 24)) := (by repeat (first | with_reducible exact Ext.refl _ | with_reducible assumption | with_reducible refine Ext.drewN ?_ _ | with_reducible refine Ext.drew ?_ | with_reducible refine Ext.alloc' ?_ _ | with_reducible refine Ext.set ?_ (by dsimp only; omega) _))
  have hx := hx.trans hl
  have Ka := Lib.hid (Ka.out.ext hl)
  have Kb := Lib.hid (Kb.out.ext hl)
  have Kq := Lib.hid (Kq.out.ext hl)
  have Kr := Lib.hid (Kr.out.ext hl)
  have Va := Lib.hid (Va.out.ext hl)
  have Vb := Lib.hid (Vb.out.ext hl)
  have Vq := Lib.hid (Vq.out.ext hl)
  have Vr := Lib.hid (Vr.out.ext hl)
  have KC := Lib.hid (KC.out.ext hl)
  have Ks := Lib.hid (Ks.out.ext hl)
  have Vs := Lib.hid (Vs.out.ext hl)
  have Vx := Lib.hid (Vx.out.ext hl)
  have Vy := Lib.hid (Vy.out.ext hl)
  have Kx := Lib.hid ((Blk.new0 x12 #[.bool nx, .slice ax qx cx] 24).alloc (.cells #[.bool false, .slice ay qy cy] 24))
  have Ky := Lib.hid (Blk.new1 x12 (.cells #[.bool nx, .slice ax qx cx] 24) #[.bool false, .slice ay qy cy] 24)
  clear hl
  generalize (x12.alloc (.cells #[.bool nx, .slice ax qx cx] 24)).alloc (.cells #[.bool false, .slice ay qy cy] 24) = x13 at *
  generalize x12.heap.size = px at *
  have Dx := Lib.hid (div_lt (y := zb) Da.out)
  have Dy := Lib.hid (mod_lt (x := za) Db.out HB0.out)
  have Lx := Lib.hid (len_lt Dx.out (by omega))
  have Ly := Lib.hid (len_lt Dy.out (by omega))
  have Dm := Lib.hid (mul_lt Dx.out Db.out)
  have Lm := Lib.hid (len_lt Dm.out (by omega))
  have Dn := Lib.hid (add_lt Dm.out (lt_mono Dy.out (show 12 ≤ 12 + 12 by omega)))
  have Ln := Lib.hid (len_lt Dn.out (by omega))
  have HE := Lib.hid (show za / zb * zb + za % zb = za from by rw [Int.mul_comm]; exact Int.mul_ediv_add_emod za zb)
  have HC := Lib.hid (cmpI_lt (show za % zb < (zb.natAbs : Int) from Int.emod_lt za HB0.out))
  go_cut [72] (fun s72 wx => s72 = .bool false ∧ Ext x13 wx)
  case first => as_aux_lemma =>
    have dc0 : x13.cell? ⟨w.heap.size, 0, none⟩ = some (.bool na) := Ka.out.cell (i := 0) rfl
    have dc1 : x13.cell? ⟨w.heap.size, 1, none⟩ = some (.slice aa qa ca) := Ka.out.cell (i := 1) rfl
    have dc2 : x13.cell? ⟨w.heap.size + 1, 0, none⟩ = some (.bool nb) := Kb.out.cell (i := 0) rfl
    have dc3 : x13.cell? ⟨w.heap.size + 1, 1, none⟩ = some (.slice ab qb cb) := Kb.out.cell (i := 1) rfl
    have dc4 : x13.cell? ⟨px, 0, none⟩ = some (.bool nx) := Kx.out.cell (i := 0) rfl
    have dc5 : x13.cell? ⟨px, 1, none⟩ = some (.slice ax qx cx) := Kx.out.cell (i := 1) rfl
    have dc6 : x13.cell? ⟨px + 1, 0, none⟩ = some (.bool false) := Ky.out.cell (i := 0) rfl
    have dc7 : x13.cell? ⟨px + 1, 1, none⟩ = some (.slice ay qy cy) := Ky.out.cell (i := 1) rfl
    have dc8 : x13.cell? ⟨ps, 0, none⟩ = some (.bool false) := Ks.out.cell (i := 0) rfl
    have dc9 : x13.cell? ⟨ps, 1, none⟩ = some (.slice ab qb cb) := Ks.out.cell (i := 1) rfl
    have hE : Ext x13 x13.drew := (Ext.refl _).drew
    refine wp_region_held_drew (S := (fun w' => w'.cell? ⟨w.heap.size, 0, none⟩ = some (.bool na) ∧ w'.cell? ⟨w.heap.size, 1, none⟩ = some (.slice aa qa ca) ∧ w'.cell? ⟨w.heap.size + 1, 0, none⟩ = some (.bool nb) ∧ w'.cell? ⟨w.heap.size + 1, 1, none⟩ = some (.slice ab qb cb) ∧ w'.cell? ⟨px, 0, none⟩ = some (.bool nx) ∧ w'.cell? ⟨px, 1, none⟩ = some (.slice ax qx cx) ∧ w'.cell? ⟨px + 1, 0, none⟩ = some (.bool false) ∧ w'.cell? ⟨px + 1, 1, none⟩ = some (.slice ay qy cy) ∧ w'.cell? ⟨ps, 0, none⟩ = some (.bool false) ∧ w'.cell? ⟨ps, 1, none⟩ = some (.slice ab qb cb))) (by kernel_rfl) ?_ (fun hHeld => ?_)
    · (first | exact ⟨cell_ext hy hHeld.1, cell_ext hy hHeld.2.1, cell_ext hy hHeld.2.2.1, cell_ext hy hHeld.2.2.2.1, cell_ext hy hHeld.2.2.2.2.1, cell_ext hy hHeld.2.2.2.2.2.1, cell_ext hy hHeld.2.2.2.2.2.2.1, cell_ext hy hHeld.2.2.2.2.2.2.2.1, cell_ext hy hHeld.2.2.2.2.2.2.2.2.1, cell_ext hy hHeld.2.2.2.2.2.2.2.2.2⟩ | exact ⟨dc0, dc1, dc2, dc3, dc4, dc5, dc6, dc7, dc8, dc9⟩ | exact hHeld)
    refine wpAnyH_take (i := 0) (oi := _) (v := ?_) rfl (by kernel_rfl) (by kernel_rfl) (by kernel_rfl) (fun _ _ _ h => h) (Or.inl ⟨by rfl, ?_⟩) (by assumption) ?_
    rotate_left
    · (intro w hSw; (try dsimp only at hSw); (try go_simp); (try with_reducible rfl))
    (try simp only [Act.put, List.getElem_toArray, List.getElem_cons_succ, List.getElem_cons_zero, List.setIfInBounds_toArray, List.set_cons_zero, List.set_cons_succ])
    refine wpAnyH_take (i := 1) (oi := _) (v := ?_) rfl (by kernel_rfl) (by kernel_rfl) (by kernel_rfl) (fun _ _ _ h => h) (Or.inl ⟨by rfl, ?_⟩) (by assumption) ?_
    rotate_left
    · (intro w hSw; (try dsimp only at hSw); (try go_simp); (try with_reducible rfl))
    (try simp only [Act.put, List.getElem_toArray, List.getElem_cons_succ, List.getElem_cons_zero, List.setIfInBounds_toArray, List.set_cons_zero, List.set_cons_succ])
    refine wpAnyH_take (i := 2) (oi := _) (v := ?_) rfl (by kernel_rfl) (by kernel_rfl) (by kernel_rfl) (fun _ _ _ h => h) (Or.inl ⟨by rfl, ?_⟩) (by assumption) ?_
    rotate_left
    · (intro w hSw; (try dsimp only at hSw); (try go_simp); (try with_reducible rfl))
    (try simp only [Act.put, List.getElem_toArray, List.getElem_cons_succ, List.getElem_cons_zero, List.setIfInBounds_toArray, List.set_cons_zero, List.set_cons_succ])
    refine wpAnyH_take (i := 3) (oi := _) (v := ?_) rfl (by kernel_rfl) (by kernel_rfl) (by kernel_rfl) (fun _ _ _ h => h) (Or.inl ⟨by rfl, ?_⟩) (by assumption) ?_
    rotate_left
    · (intro w hSw; (try dsimp only at hSw); (try go_simp); (try with_reducible rfl))
    (try simp only [Act.put, List.getElem_toArray, List.getElem_cons_succ, List.getElem_cons_zero, List.setIfInBounds_toArray, List.set_cons_zero, List.set_cons_succ])
    refine wpAnyH_ready (rs := [4]) (by kernel_rfl) (by simp) ?_
    refine AllReadyH.cons (o := _) rfl (fun K hK => ?_) ?_
    · go_simp
      (with_reducible refine (rcheck_val (Vx.out.ext hE) Lx.out).mono ?_); rintro e y1 ⟨rfl, hy⟩; have hE := hE.trans hy
      refine hK.out _ _ ?_ (fun hHeld2 => ?_)
      · (first | exact ⟨cell_ext hy hHeld.1, cell_ext hy hHeld.2.1, cell_ext hy hHeld.2.2.1, cell_ext hy hHeld.2.2.2.1, cell_ext hy hHeld.2.2.2.2.1, cell_ext hy hHeld.2.2.2.2.2.1, cell_ext hy hHeld.2.2.2.2.2.2.1, cell_ext hy hHeld.2.2.2.2.2.2.2.1, cell_ext hy hHeld.2.2.2.2.2.2.2.2.1, cell_ext hy hHeld.2.2.2.2.2.2.2.2.2⟩ | exact ⟨dc0, dc1, dc2, dc3, dc4, dc5, dc6, dc7, dc8, dc9⟩ | exact hHeld)
      clear hK K hHeld
      have hHeld := hHeld2
      clear hHeld2
      (try simp only [Act.put, List.getElem_toArray, List.getElem_cons_succ, List.getElem_cons_zero, List.setIfInBounds_toArray, List.set_cons_zero, List.set_cons_succ])
      refine wpAnyH_take (i := 5) (oi := _) (v := ?_) rfl (by kernel_rfl) (by kernel_rfl) (by kernel_rfl) (fun _ _ _ h => h) (Or.inl ⟨by rfl, ?_⟩) (by assumption) ?_
      rotate_left
      · (intro w hSw; (try dsimp only at hSw); (try go_simp); (try with_reducible rfl))
      (try simp only [Act.put, List.getElem_toArray, List.getElem_cons_succ, List.getElem_cons_zero, List.setIfInBounds_toArray, List.set_cons_zero, List.set_cons_succ])
      refine wpAnyH_take (i := 6) (oi := _) (v := ?_) rfl (by kernel_rfl) (by kernel_rfl) (by kernel_rfl) (fun _ _ _ h => h) (Or.inl ⟨by rfl, ?_⟩) (by assumption) ?_
      rotate_left
      · (intro w hSw; (try dsimp only at hSw); (try go_simp); (try with_reducible rfl))
      (try simp only [Act.put, List.getElem_toArray, List.getElem_cons_succ, List.getElem_cons_zero, List.setIfInBounds_toArray, List.set_cons_zero, List.set_cons_succ])
      refine wpAnyH_take (i := 7) (oi := _) (v := ?_) rfl (by kernel_rfl) (by kernel_rfl) (by kernel_rfl) (fun _ _ _ h => h) (Or.inl ⟨by rfl, ?_⟩) (by assumption) ?_
      rotate_left
      · (intro w hSw; (try dsimp only at hSw); (try go_simp); (try with_reducible rfl))
      (try simp only [Act.put, List.getElem_toArray, List.getElem_cons_succ, List.getElem_cons_zero, List.setIfInBounds_toArray, List.set_cons_zero, List.set_cons_succ])
      refine wpAnyH_take (i := 8) (oi := _) (v := ?_) rfl (by kernel_rfl) (by kernel_rfl) (by kernel_rfl) (fun _ _ _ h => h) (Or.inl ⟨by rfl, ?_⟩) (by assumption) ?_
      rotate_left
      · (intro w hSw; (try dsimp only at hSw); (try go_simp); (try with_reducible rfl))
      (try simp only [Act.put, List.getElem_toArray, List.getElem_cons_succ, List.getElem_cons_zero, List.setIfInBounds_toArray, List.set_cons_zero, List.set_cons_succ])
      refine wpAnyH_ready (rs := [9]) (by kernel_rfl) (by simp) ?_
      refine AllReadyH.cons (o := _) rfl (fun K hK => ?_) ?_
      · go_simp
        (with_reducible refine (rcheck_val (Vy.out.ext hE) Ly.out).mono ?_); rintro e y2 ⟨rfl, hy⟩; have hE := hE.trans hy
        refine hK.out _ _ ?_ (fun hHeld2 => ?_)
        · (first | exact ⟨cell_ext hy hHeld.1, cell_ext hy hHeld.2.1, cell_ext hy hHeld.2.2.1, cell_ext hy hHeld.2.2.2.1, cell_ext hy hHeld.2.2.2.2.1, cell_ext hy hHeld.2.2.2.2.2.1, cell_ext hy hHeld.2.2.2.2.2.2.1, cell_ext hy hHeld.2.2.2.2.2.2.2.1, cell_ext hy hHeld.2.2.2.2.2.2.2.2.1, cell_ext hy hHeld.2.2.2.2.2.2.2.2.2⟩ | exact ⟨dc0, dc1, dc2, dc3, dc4, dc5, dc6, dc7, dc8, dc9⟩ | exact hHeld)
        clear hK K hHeld
        have hHeld := hHeld2
        clear hHeld2
        (try simp only [Act.put, List.getElem_toArray, List.getElem_cons_succ, List.getElem_cons_zero, List.setIfInBounds_toArray, List.set_cons_zero, List.set_cons_succ])
        refine wpAnyH_take (i := 10) (oi := _) (v := ?_) rfl (by kernel_rfl) (by kernel_rfl) (by kernel_rfl) (fun _ _ _ h => h) (Or.inl ⟨by rfl, ?_⟩) (by assumption) ?_
        rotate_left
        · (intro w hSw; (try dsimp only at hSw); (try go_simp); (try with_reducible rfl))
        (try simp only [Act.put, List.getElem_toArray, List.getElem_cons_succ, List.getElem_cons_zero, List.setIfInBounds_toArray, List.set_cons_zero, List.set_cons_succ])
        refine wpAnyH_take (i := 11) (oi := _) (v := ?_) rfl (by kernel_rfl) (by kernel_rfl) (by kernel_rfl) (fun _ _ _ h => h) (Or.inl ⟨by rfl, ?_⟩) (by assumption) ?_
        rotate_left
        · (intro w hSw; (try dsimp only at hSw); (try go_simp); (try with_reducible rfl))
        (try simp only [Act.put, List.getElem_toArray, List.getElem_cons_succ, List.getElem_cons_zero, List.setIfInBounds_toArray, List.set_cons_zero, List.set_cons_succ])
        refine wpAnyH_take (i := 12) (oi := _) (v := ?_) rfl (by kernel_rfl) (by kernel_rfl) (by kernel_rfl) (fun _ _ _ h => h) (Or.inl ⟨by rfl, ?_⟩) (by assumption) ?_
        rotate_left
        · (intro w hSw; (try dsimp only at hSw); (try go_simp); (try with_reducible rfl))
        (try simp only [Act.put, List.getElem_toArray, List.getElem_cons_succ, List.getElem_cons_zero, List.setIfInBounds_toArray, List.set_cons_zero, List.set_cons_succ])
        refine wpAnyH_take (i := 13) (oi := _) (v := ?_) rfl (by kernel_rfl) (by kernel_rfl) (by kernel_rfl) (fun _ _ _ h => h) (Or.inl ⟨by rfl, ?_⟩) (by assumption) ?_
        rotate_left
        · (intro w hSw; (try dsimp only at hSw); (try go_simp); (try with_reducible rfl))
        (try simp only [Act.put, List.getElem_toArray, List.getElem_cons_succ, List.getElem_cons_zero, List.setIfInBounds_toArray, List.set_cons_zero, List.set_cons_succ])
        refine wpAnyH_take (i := 14) (oi := _) (v := ?_) rfl (by kernel_rfl) (by kernel_rfl) (by kernel_rfl) (fun _ _ _ h => h) (Or.inl ⟨by rfl, ?_⟩) (by assumption) ?_
        rotate_left
        · (intro w hSw; (try dsimp only at hSw); (try go_simp); (try with_reducible rfl))
        (try simp only [Act.put, List.getElem_toArray, List.getElem_cons_succ, List.getElem_cons_zero, List.setIfInBounds_toArray, List.set_cons_zero, List.set_cons_succ])
        refine wpAnyH_take (i := 16) (oi := _) (v := ?_) rfl (by kernel_rfl) (by kernel_rfl) (by kernel_rfl) (fun _ _ _ h => h) (Or.inl ⟨by rfl, ?_⟩) (by assumption) ?_
        rotate_left
        · (intro w hSw; (try dsimp only at hSw); (try go_simp); (try with_reducible rfl))
        (try simp only [Act.put, List.getElem_toArray, List.getElem_cons_succ, List.getElem_cons_zero, List.setIfInBounds_toArray, List.set_cons_zero, List.set_cons_succ])
        refine wpAnyH_take (i := 18) (oi := _) (v := ?_) rfl (by kernel_rfl) (by kernel_rfl) (by kernel_rfl) (fun _ _ _ h => h) (Or.inl ⟨by rfl, ?_⟩) (by assumption) ?_
        rotate_left
        · (intro w hSw; (try dsimp only at hSw); (try go_simp); (try with_reducible rfl))
        (try simp only [Act.put, List.getElem_toArray, List.getElem_cons_succ, List.getElem_cons_zero, List.setIfInBounds_toArray, List.set_cons_zero, List.set_cons_succ])
        refine wpAnyH_ready (rs := [15]) (by kernel_rfl) (by simp) ?_
        refine AllReadyH.cons (o := _) rfl (fun K hK => ?_) ?_
        · go_simp
          (with_reducible refine (calc_mul pc _ (KC.out.ext hE) (Vx.out.ext hE) (Vb.out.ext hE) Lx.out Lb.out Lm.out).mono ?_); rintro e y3 ⟨v3, rfl, hv3, hy⟩; have hv3 := hv3.val; have hE := hE.trans hy
          refine hK.out _ _ ?_ (fun hHeld2 => ?_)
          · (first | exact ⟨cell_ext hy hHeld.1, cell_ext hy hHeld.2.1, cell_ext hy hHeld.2.2.1, cell_ext hy hHeld.2.2.2.1, cell_ext hy hHeld.2.2.2.2.1, cell_ext hy hHeld.2.2.2.2.2.1, cell_ext hy hHeld.2.2.2.2.2.2.1, cell_ext hy hHeld.2.2.2.2.2.2.2.1, cell_ext hy hHeld.2.2.2.2.2.2.2.2.1, cell_ext hy hHeld.2.2.2.2.2.2.2.2.2⟩ | exact ⟨dc0, dc1, dc2, dc3, dc4, dc5, dc6, dc7, dc8, dc9⟩ | exact hHeld)
          clear hK K hHeld
          have hHeld := hHeld2
          clear hHeld2
          (try simp only [Act.put, List.getElem_toArray, List.getElem_cons_succ, List.getElem_cons_zero, List.setIfInBounds_toArray, List.set_cons_zero, List.set_cons_succ])
          refine wpAnyH_ready (rs := [17]) (by kernel_rfl) (by simp) ?_
          refine AllReadyH.cons (o := _) rfl (fun K hK => ?_) ?_
          · go_simp
            (with_reducible refine (calc_add pc _ (KC.out.ext hE) hv3 (Vy.out.ext hE) Lm.out Ly.out Ln.out).mono ?_); rintro e y4 ⟨v4, rfl, hv4, hy⟩; have hv4 := hv4.val; have hE := hE.trans hy
            refine hK.out _ _ ?_ (fun hHeld2 => ?_)
            · (first | exact ⟨cell_ext hy hHeld.1, cell_ext hy hHeld.2.1, cell_ext hy hHeld.2.2.1, cell_ext hy hHeld.2.2.2.1, cell_ext hy hHeld.2.2.2.2.1, cell_ext hy hHeld.2.2.2.2.2.1, cell_ext hy hHeld.2.2.2.2.2.2.1, cell_ext hy hHeld.2.2.2.2.2.2.2.1, cell_ext hy hHeld.2.2.2.2.2.2.2.2.1, cell_ext hy hHeld.2.2.2.2.2.2.2.2.2⟩ | exact ⟨dc0, dc1, dc2, dc3, dc4, dc5, dc6, dc7, dc8, dc9⟩ | exact hHeld)
            clear hK K hHeld
            have hHeld := hHeld2
            clear hHeld2
            (try simp only [Act.put, List.getElem_toArray, List.getElem_cons_succ, List.getElem_cons_zero, List.setIfInBounds_toArray, List.set_cons_zero, List.set_cons_succ])
            refine wpAnyH_ready (rs := [19]) (by kernel_rfl) (by simp) ?_
            refine AllReadyH.cons (o := _) rfl (fun K hK => ?_) ?_
            · go_simp
              (with_reducible refine (sameT hv4 (Va.out.ext hE) HE.out).mono ?_); rintro e y5 ⟨rfl, hy⟩; have hE := hE.trans hy
              refine hK.out _ _ ?_ (fun hHeld2 => ?_)
              · (first | exact ⟨cell_ext hy hHeld.1, cell_ext hy hHeld.2.1, cell_ext hy hHeld.2.2.1, cell_ext hy hHeld.2.2.2.1, cell_ext hy hHeld.2.2.2.2.1, cell_ext hy hHeld.2.2.2.2.2.1, cell_ext hy hHeld.2.2.2.2.2.2.1, cell_ext hy hHeld.2.2.2.2.2.2.2.1, cell_ext hy hHeld.2.2.2.2.2.2.2.2.1, cell_ext hy hHeld.2.2.2.2.2.2.2.2.2⟩ | exact ⟨dc0, dc1, dc2, dc3, dc4, dc5, dc6, dc7, dc8, dc9⟩ | exact hHeld)
              clear hK K hHeld
              have hHeld := hHeld2
              clear hHeld2
              (try simp only [Act.put, List.getElem_toArray, List.getElem_cons_succ, List.getElem_cons_zero, List.setIfInBounds_toArray, List.set_cons_zero, List.set_cons_succ])
              refine wpAnyH_take (i := 20) (oi := _) (v := ?_) rfl (by kernel_rfl) (by kernel_rfl) (by kernel_rfl) (fun _ _ _ h => h) (Or.inl ⟨by rfl, ?_⟩) (by assumption) ?_
              rotate_left
              · (intro w hSw; (try dsimp only at hSw); (try go_simp); (try with_reducible rfl))
              (try simp only [Act.put, List.getElem_toArray, List.getElem_cons_succ, List.getElem_cons_zero, List.setIfInBounds_toArray, List.set_cons_zero, List.set_cons_succ])
              refine wpAnyH_take (i := 21) (oi := _) (v := ?_) rfl (by kernel_rfl) (by kernel_rfl) (by kernel_rfl) (fun _ _ _ h => h) (Or.inl ⟨by rfl, ?_⟩) (by assumption) ?_
              rotate_left
              · (intro w hSw; (try dsimp only at hSw); (try go_simp); (try with_reducible rfl))
              (try simp only [Act.put, List.getElem_toArray, List.getElem_cons_succ, List.getElem_cons_zero, List.setIfInBounds_toArray, List.set_cons_zero, List.set_cons_succ])
              refine wpAnyH_take (i := 22) (oi := _) (v := ?_) rfl (by kernel_rfl) (by kernel_rfl) (by kernel_rfl) (fun _ _ _ h => h) (Or.inl ⟨by rfl, ?_⟩) (by assumption) ?_
              rotate_left
              · (intro w hSw; (try dsimp only at hSw); (try go_simp); (try with_reducible rfl))
              (try simp only [Act.put, List.getElem_toArray, List.getElem_cons_succ, List.getElem_cons_zero, List.setIfInBounds_toArray, List.set_cons_zero, List.set_cons_succ])
              refine wpAnyH_take (i := 23) (oi := _) (v := ?_) rfl (by kernel_rfl) (by kernel_rfl) (by kernel_rfl) (fun _ _ _ h => h) (Or.inl ⟨by rfl, ?_⟩) (by assumption) ?_
              rotate_left
              · (intro w hSw; (try dsimp only at hSw); (try go_simp); (try with_reducible rfl))
              (try simp only [Act.put, List.getElem_toArray, List.getElem_cons_succ, List.getElem_cons_zero, List.setIfInBounds_toArray, List.set_cons_zero, List.set_cons_succ])
              refine wpAnyH_take (i := 24) (oi := _) (v := ?_) rfl (by kernel_rfl) (by kernel_rfl) (by kernel_rfl) (fun _ _ _ h => h) (Or.inl ⟨by rfl, ?_⟩) (by assumption) ?_
              rotate_left
              · (intro w hSw; (try dsimp only at hSw); (try go_simp); (try with_reducible rfl))
              (try simp only [Act.put, List.getElem_toArray, List.getElem_cons_succ, List.getElem_cons_zero, List.setIfInBounds_toArray, List.set_cons_zero, List.set_cons_succ])
              refine wpAnyH_take (i := 25) (oi := _) (v := ?_) rfl (by kernel_rfl) (by kernel_rfl) (by kernel_rfl) (fun _ _ _ h => h) (Or.inl ⟨by rfl, ?_⟩) (by assumption) ?_
              rotate_left
              · (intro w hSw; (try dsimp only at hSw); (try go_simp); (try with_reducible rfl))
              (try simp only [Act.put, List.getElem_toArray, List.getElem_cons_succ, List.getElem_cons_zero, List.setIfInBounds_toArray, List.set_cons_zero, List.set_cons_succ])
              refine wpAnyH_take (i := 26) (oi := _) (v := ?_) rfl (by kernel_rfl) (by kernel_rfl) (by kernel_rfl) (fun _ _ _ h => h) (Or.inl ⟨by rfl, ?_⟩) (by assumption) ?_
              rotate_left
              · (intro w hSw; (try dsimp only at hSw); (try go_simp); (try with_reducible rfl))
              (try simp only [Act.put, List.getElem_toArray, List.getElem_cons_succ, List.getElem_cons_zero, List.setIfInBounds_toArray, List.set_cons_zero, List.set_cons_succ])
              refine wpAnyH_take (i := 27) (oi := _) (v := ?_) rfl (by kernel_rfl) (by kernel_rfl) (by kernel_rfl) (fun _ _ _ h => h) (Or.inl ⟨by rfl, ?_⟩) (by assumption) ?_
              rotate_left
              · (intro w hSw; (try dsimp only at hSw); (try go_simp); (try with_reducible rfl))
              (try simp only [Act.put, List.getElem_toArray, List.getElem_cons_succ, List.getElem_cons_zero, List.setIfInBounds_toArray, List.set_cons_zero, List.set_cons_succ])
              refine wpAnyH_take (i := 28) (oi := _) (v := ?_) rfl (by kernel_rfl) (by kernel_rfl) (by kernel_rfl) (fun _ _ _ h => h) (Or.inl ⟨by rfl, ?_⟩) (by assumption) ?_
              rotate_left
              · (intro w hSw; (try dsimp only at hSw); (try go_simp); (try with_reducible rfl))
              (try simp only [Act.put, List.getElem_toArray, List.getElem_cons_succ, List.getElem_cons_zero, List.setIfInBounds_toArray, List.set_cons_zero, List.set_cons_succ])
              refine wpAnyH_ready (rs := [29]) (by kernel_rfl) (by simp) ?_
              refine AllReadyH.cons (o := _) rfl (fun K hK => ?_) ?_
              · go_simp
                (with_reducible refine (calc_cmp pc _ (KC.out.ext hE) (Vy.out.ext hE) (Vs.out.ext hE) Ly.out Ls.out).mono ?_); rintro e y6 ⟨rfl, hy⟩; rw [HC.out]; have hE := hE.trans hy
                refine hK.out _ _ ?_ (fun hHeld2 => ?_)
                · (first | exact ⟨cell_ext hy hHeld.1, cell_ext hy hHeld.2.1, cell_ext hy hHeld.2.2.1, cell_ext hy hHeld.2.2.2.1, cell_ext hy hHeld.2.2.2.2.1, cell_ext hy hHeld.2.2.2.2.2.1, cell_ext hy hHeld.2.2.2.2.2.2.1, cell_ext hy hHeld.2.2.2.2.2.2.2.1, cell_ext hy hHeld.2.2.2.2.2.2.2.2.1, cell_ext hy hHeld.2.2.2.2.2.2.2.2.2⟩ | exact ⟨dc0, dc1, dc2, dc3, dc4, dc5, dc6, dc7, dc8, dc9⟩ | exact hHeld)
                clear hK K hHeld
                have hHeld := hHeld2
                clear hHeld2
                (try simp only [Act.put, List.getElem_toArray, List.getElem_cons_succ, List.getElem_cons_zero, List.setIfInBounds_toArray, List.set_cons_zero, List.set_cons_succ])
                refine wpAnyH_take (i := 30) (oi := _) (v := ?_) rfl (by kernel_rfl) (by kernel_rfl) (by kernel_rfl) (fun _ _ _ h => h) (Or.inl ⟨by rfl, ?_⟩) (by assumption) ?_
                rotate_left
                · (intro w hSw; (try dsimp only at hSw); (try go_simp); (try with_reducible rfl))
                (try simp only [Act.put, List.getElem_toArray, List.getElem_cons_succ, List.getElem_cons_zero, List.setIfInBounds_toArray, List.set_cons_zero, List.set_cons_succ])
                refine wpAnyH_take (i := 31) (oi := _) (v := ?_) rfl (by kernel_rfl) (by kernel_rfl) (by kernel_rfl) (fun _ _ _ h => h) (Or.inl ⟨by rfl, ?_⟩) (by assumption) ?_
                rotate_left
                · (intro w hSw; (try dsimp only at hSw); (try go_simp); (try with_reducible rfl))
                (try simp only [Act.put, List.getElem_toArray, List.getElem_cons_succ, List.getElem_cons_zero, List.setIfInBounds_toArray, List.set_cons_zero, List.set_cons_succ])
                refine wpAnyH_done (by kernel_rfl) ?_ _
                (go_wp2_with fail; go_meet; exact ⟨rfl, hE⟩)
              exact AllReadyH.nil
            exact AllReadyH.nil
          exact AllReadyH.nil
        exact AllReadyH.nil
      exact AllReadyH.nil
    exact AllReadyH.nil
  case rest =>
  obtain ⟨rfl, hy⟩ := hcut
  have hx := hx.trans hy
  have Ka := Lib.hid (Ka.out.ext hy)
  have Kb := Lib.hid (Kb.out.ext hy)
  have Kq := Lib.hid (Kq.out.ext hy)
  have Kr := Lib.hid (Kr.out.ext hy)
  have Va := Lib.hid (Va.out.ext hy)
  have Vb := Lib.hid (Vb.out.ext hy)
  have Vq := Lib.hid (Vq.out.ext hy)
  have Vr := Lib.hid (Vr.out.ext hy)
  have KC := Lib.hid (KC.out.ext hy)
  have Ks := Lib.hid (Ks.out.ext hy)
  have Vs := Lib.hid (Vs.out.ext hy)
  have Vx := Lib.hid (Vx.out.ext hy)
  have Vy := Lib.hid (Vy.out.ext hy)
  have Kx := Lib.hid (Kx.out.ext hy)
  have Ky := Lib.hid (Ky.out.ext hy)
  clear hy HE HC
  have hnr := HNR.out
  subst hnr
  have kc := KC.out.cell (i := 0) (v := .bool false) rfl
  have cr0 := Kr.out.cell (i := 0) (v := .bool true) rfl
  have cr1 := Kr.out.cell (i := 1) (v := .slice ar qr cr) rfl
  have cs0 := Ks.out.cell (i := 0) (v := .bool false) rfl
  have cs1 := Ks.out.cell (i := 1) (v := .slice ab qb cb) rfl
  go_wp2_with fail
  go_ret
  exact ⟨rfl, hx⟩
set_option maxHeartbeats 8000000 in
theorem law_Dvd3 (na nb nq nr : Bool) (aa ab aq ar : Option Addr) (qa qb qq qr ca cb cq cr : Nat) (la_ lb_ lq_ lr_ : List Int) (w : World) (ha : Ints w aa ca la_) (hb : Ints w ab cb lb_) (hq : Ints w aq cq lq_) (hr : Ints w ar cr lr_) (la : la_.length = qa) (lb : lb_.length = qb) (lq : lq_.length = qq) (lr : lr_.length = qr) (hv : ∀ x ∈ ([⟨na, aa, ca, la_⟩, ⟨nb, ab, cb, lb_⟩, ⟨nq, aq, cq, lq_⟩, ⟨nr, ar, cr, lr_⟩] : List BigA), okA x = true) (h0 : qb ≠ 0) (hn : nr = false) (hc : (dval lb_).natAbs ≤ dval lr_) :
    Calls Tryd.prog 10 #[.agg #[.bool na, .slice aa qa ca], .agg #[.bool nb, .slice ab qb cb], .agg #[.bool nq, .slice aq qq cq], .agg #[.bool nr, .slice ar qr cr]] w fun e w' => e = .returned (.bool true) ∧ Ext w w' := by
  have HNR := Lib.hid hn
  clear hn
  have tq : ((qb : Int) == 0) = false := by simp; omega
  have tq2 : (qb == 0) = false := by simp; omega
  have H0 := Lib.hid h0
  clear h0
  have HC0 := Lib.hid hc
  clear hc
  have HIa := Lib.hid ha
  have HLa := Lib.hid la
  have HIb := Lib.hid hb
  have HLb := Lib.hid lb
  have HIq := Lib.hid hq
  have HLq := Lib.hid lq
  have HIr := Lib.hid hr
  have HLr := Lib.hid lr
  have HV := Lib.hid hv
  clear la lb lq lr ha hb hq hr hv
  have hx : Ext w (((((w).alloc (.cells #[.bool na, .slice aa qa ca] 24)).alloc (.cells #[.bool nb, .slice ab qb cb] 24)).alloc (.cells #[.bool nq, .slice aq qq cq] 24)).alloc (.cells #[.bool nr, .slice ar qr cr] 24)) := (by repeat (first | with_reducible exact Ext.refl _ | with_reducible assumption | with_reducible refine Ext.drewN ?_ _ | with_reducible refine Ext.drew ?_ | with_reducible refine Ext.alloc' ?_ _ | with_reducible refine Ext.set ?_ (by dsimp only; omega) _))
  have Ka : Blk (((((w).alloc (.cells #[.bool na, .slice aa qa ca] 24)).alloc (.cells #[.bool nb, .slice ab qb cb] 24)).alloc (.cells #[.bool nq, .slice aq qq cq] 24)).alloc (.cells #[.bool nr, .slice ar qr cr] 24)) (w.heap.size) #[.bool na, .slice aa qa ca] 24 := by have h := (((Blk.new0 (w) #[.bool na, .slice aa qa ca] 24).alloc (.cells #[.bool nb, .slice ab qb cb] 24)).alloc (.cells #[.bool nq, .slice aq qq cq] 24)).alloc (.cells #[.bool nr, .slice ar qr cr] 24); simpa [Nat.add_assoc] using h
  have Ka := Lib.hid Ka
  have Kb : Blk (((((w).alloc (.cells #[.bool na, .slice aa qa ca] 24)).alloc (.cells #[.bool nb, .slice ab qb cb] 24)).alloc (.cells #[.bool nq, .slice aq qq cq] 24)).alloc (.cells #[.bool nr, .slice ar qr cr] 24)) (w.heap.size + 1) #[.bool nb, .slice ab qb cb] 24 := by have h := ((Blk.new0 ((w).alloc (.cells #[.bool na, .slice aa qa ca] 24)) #[.bool nb, .slice ab qb cb] 24).alloc (.cells #[.bool nq, .slice aq qq cq] 24)).alloc (.cells #[.bool nr, .slice ar qr cr] 24); simpa [Nat.add_assoc] using h
  have Kb := Lib.hid Kb
  have Kq : Blk (((((w).alloc (.cells #[.bool na, .slice aa qa ca] 24)).alloc (.cells #[.bool nb, .slice ab qb cb] 24)).alloc (.cells #[.bool nq, .slice aq qq cq] 24)).alloc (.cells #[.bool nr, .slice ar qr cr] 24)) (w.heap.size + 2) #[.bool nq, .slice aq qq cq] 24 := by have h := (Blk.new0 (((w).alloc (.cells #[.bool na, .slice aa qa ca] 24)).alloc (.cells #[.bool nb, .slice ab qb cb] 24)) #[.bool nq, .slice aq qq cq] 24).alloc (.cells #[.bool nr, .slice ar qr cr] 24); simpa [Nat.add_assoc] using h
  have Kq := Lib.hid Kq
  have Kr : Blk (((((w).alloc (.cells #[.bool na, .slice aa qa ca] 24)).alloc (.cells #[.bool nb, .slice ab qb cb] 24)).alloc (.cells #[.bool nq, .slice aq qq cq] 24)).alloc (.cells #[.bool nr, .slice ar qr cr] 24)) (w.heap.size + 3) #[.bool nr, .slice ar qr cr] 24 := by have h := Blk.new0 ((((w).alloc (.cells #[.bool na, .slice aa qa ca] 24)).alloc (.cells #[.bool nb, .slice ab qb cb] 24)).alloc (.cells #[.bool nq, .slice aq qq cq] 24)) #[.bool nr, .slice ar qr cr] 24; simpa [Nat.add_assoc] using h
  have Kr := Lib.hid Kr
  go_enter Tryd.func10, Tryd.ntmps10
  go_upto_region 1 with fail
  try simp only [Nat.add_assoc, Nat.reduceAdd, Nat.add_zero]
  generalize ((((w).alloc (.cells #[.bool na, .slice aa qa ca] 24)).alloc (.cells #[.bool nb, .slice ab qb cb] 24)).alloc (.cells #[.bool nq, .slice aq qq cq] 24)).alloc (.cells #[.bool nr, .slice ar qr cr] 24) = x14 at *
  go_wp2_with fail
  with_reducible refine (law09Sane _).mono ?_
  rintro e x15 ⟨rfl, hy⟩
  have hx := hx.trans hy
  have Ka := Lib.hid (Ka.out.ext hy)
  have Kb := Lib.hid (Kb.out.ext hy)
  have Kq := Lib.hid (Kq.out.ext hy)
  have Kr := Lib.hid (Kr.out.ext hy)
  clear hy
  have ca0 := Ka.out.cell (i := 0) (v := .bool na) rfl
  have ca1 := Ka.out.cell (i := 1) (v := .slice aa qa ca) rfl
  have cb0 := Kb.out.cell (i := 0) (v := .bool nb) rfl
  have cb1 := Kb.out.cell (i := 1) (v := .slice ab qb cb) rfl
  have cq0 := Kq.out.cell (i := 0) (v := .bool nq) rfl
  have cq1 := Kq.out.cell (i := 1) (v := .slice aq qq cq) rfl
  have cr0 := Kr.out.cell (i := 0) (v := .bool nr) rfl
  have cr1 := Kr.out.cell (i := 1) (v := .slice ar qr cr) rfl
  have hl := Ext.alloc x15 (.cells #[.bool na, .slice aa qa ca, .bool nb, .slice ab qb cb, .bool nq, .slice aq qq cq, .bool nr, .slice ar qr cr] 24)
  have hrow : BigRow (x15.alloc (.cells #[.bool na, .slice aa qa ca, .bool nb, .slice ab qb cb, .bool nq, .slice aq qq cq, .bool nr, .slice ar qr cr] 24)) x15.heap.size [⟨na, aa, ca, la_⟩, ⟨nb, ab, cb, lb_⟩, ⟨nq, aq, cq, lq_⟩, ⟨nr, ar, cr, lr_⟩] := by
    have hB := Blk.new0 x15 #[.bool na, .slice aa qa ca, .bool nb, .slice ab qb cb, .bool nq, .slice aq qq cq, .bool nr, .slice ar qr cr] 24
    have hxl := hx.trans hl
    rw [← HLa.out, ← HLb.out, ← HLq.out, ← HLr.out] at hB hxl ⊢
    exact bigRow4 hB (HIa.out.ext hxl) (HIb.out.ext hxl) (HIq.out.ext hxl) (HIr.out.ext hxl)
  have HROW := Lib.hid hrow
  clear hrow
  have HVAL := Lib.hid (law_valid_yes _ _ _ HROW.out (by simp) HV.out)
  simp only [List.length_cons, List.length_nil, Nat.zero_add, Nat.reduceAdd] at HVAL
  go_wp2_with fail
  with_reducible refine (HVAL.out).mono ?_
  rintro e x16 ⟨rfl, hy⟩
  have hx := hx.trans (hl.trans hy)
  have Ka := Lib.hid (Ka.out.ext (hl.trans hy))
  have Kb := Lib.hid (Kb.out.ext (hl.trans hy))
  have Kq := Lib.hid (Kq.out.ext (hl.trans hy))
  have Kr := Lib.hid (Kr.out.ext (hl.trans hy))
  clear hl hy HROW HVAL
  clear ca0 ca1 cb0 cb1 cq0 cq1 cr0 cr1
  have cb0 := Kb.out.cell (i := 0) (v := .bool nb) rfl
  have cb1 := Kb.out.cell (i := 1) (v := .slice ab qb cb) rfl
  go_upto_region 5 with fail
  clear cb0 cb1
  obtain ⟨hBa, hDa⟩ := okA_z (HV.out _ (show (⟨na, aa, ca, la_⟩ : BigA) ∈ ([⟨na, aa, ca, la_⟩, ⟨nb, ab, cb, lb_⟩, ⟨nq, aq, cq, lq_⟩, ⟨nr, ar, cr, lr_⟩] : List BigA) from by simp))
  obtain ⟨za, hza⟩ : ∃ z, sgn na (dval la_) = z := ⟨_, rfl⟩
  have Va : Hid (BigV w (.agg #[.bool na, .slice aa qa ca]) za) := Lib.hid ⟨na, la_, ⟨aa, ca, by rw [HLa.out], HIa.out⟩, by rw [← hza]; exact hBa⟩
  have Va := Lib.hid (Va.out.ext hx)
  have Da : Hid (za.natAbs < 1073741824 ^ 12) := Lib.hid (abs_lt (by rw [← hza]; exact hDa))
  have La : Hid (Len za) := Lib.hid (len_lt Da.out (by omega))
  obtain ⟨hBb, hDb⟩ := okA_z (HV.out _ (show (⟨nb, ab, cb, lb_⟩ : BigA) ∈ ([⟨na, aa, ca, la_⟩, ⟨nb, ab, cb, lb_⟩, ⟨nq, aq, cq, lq_⟩, ⟨nr, ar, cr, lr_⟩] : List BigA) from by simp))
  obtain ⟨zb, hzb⟩ : ∃ z, sgn nb (dval lb_) = z := ⟨_, rfl⟩
  have Vb : Hid (BigV w (.agg #[.bool nb, .slice ab qb cb]) zb) := Lib.hid ⟨nb, lb_, ⟨ab, cb, by rw [HLb.out], HIb.out⟩, by rw [← hzb]; exact hBb⟩
  have Vb := Lib.hid (Vb.out.ext hx)
  have Db : Hid (zb.natAbs < 1073741824 ^ 12) := Lib.hid (abs_lt (by rw [← hzb]; exact hDb))
  have Lb : Hid (Len zb) := Lib.hid (len_lt Db.out (by omega))
  obtain ⟨hBq, hDq⟩ := okA_z (HV.out _ (show (⟨nq, aq, cq, lq_⟩ : BigA) ∈ ([⟨na, aa, ca, la_⟩, ⟨nb, ab, cb, lb_⟩, ⟨nq, aq, cq, lq_⟩, ⟨nr, ar, cr, lr_⟩] : List BigA) from by simp))
  obtain ⟨zq, hzq⟩ : ∃ z, sgn nq (dval lq_) = z := ⟨_, rfl⟩
  have Vq : Hid (BigV w (.agg #[.bool nq, .slice aq qq cq]) zq) := Lib.hid ⟨nq, lq_, ⟨aq, cq, by rw [HLq.out], HIq.out⟩, by rw [← hzq]; exact hBq⟩
  have Vq := Lib.hid (Vq.out.ext hx)
  have Dq : Hid (zq.natAbs < 1073741824 ^ 12) := Lib.hid (abs_lt (by rw [← hzq]; exact hDq))
  have Lq : Hid (Len zq) := Lib.hid (len_lt Dq.out (by omega))
  obtain ⟨hBr, hDr⟩ := okA_z (HV.out _ (show (⟨nr, ar, cr, lr_⟩ : BigA) ∈ ([⟨na, aa, ca, la_⟩, ⟨nb, ab, cb, lb_⟩, ⟨nq, aq, cq, lq_⟩, ⟨nr, ar, cr, lr_⟩] : List BigA) from by simp))
  obtain ⟨zr, hzr⟩ : ∃ z, sgn nr (dval lr_) = z := ⟨_, rfl⟩
  have Vr : Hid (BigV w (.agg #[.bool nr, .slice ar qr cr]) zr) := Lib.hid ⟨nr, lr_, ⟨ar, cr, by rw [HLr.out], HIr.out⟩, by rw [← hzr]; exact hBr⟩
  have Vr := Lib.hid (Vr.out.ext hx)
  have Dr : Hid (zr.natAbs < 1073741824 ^ 12) := Lib.hid (abs_lt (by rw [← hzr]; exact hDr))
  have Lr : Hid (Len zr) := Lib.hid (len_lt Dr.out (by omega))
  have HN : Hid (0 ≤ zr ∧ (zb.natAbs : Int) ≤ zr) := by
    have e1 := HC0.out
    have e2 : 0 ≤ dval lr_ := dval_nonneg hBr.1.digs
    have e3 : zb.natAbs = (dval lb_).natAbs := by rw [← hzb]; unfold sgn; split <;> omega
    have e4 : zr = dval lr_ := by rw [← hzr, HNR.out]; rfl
    exact Lib.hid ⟨by omega, by omega⟩
  have HB0 : Hid (zb ≠ 0) := Lib.hid (fun e => H0.out (Vb.out.len0.2 e))
  clear hBa hDa hza hBb hDb hzb hBq hDq hzq hBr hDr hzr
  go_upto_region 6 with fail
  have hl := Ext.alloc x16 (.cells #[.bool false] 49)
  have hx := hx.trans hl
  have Ka := Lib.hid (Ka.out.ext hl)
  have Kb := Lib.hid (Kb.out.ext hl)
  have Kq := Lib.hid (Kq.out.ext hl)
  have Kr := Lib.hid (Kr.out.ext hl)
  have Va := Lib.hid (Va.out.ext hl)
  have Vb := Lib.hid (Vb.out.ext hl)
  have Vq := Lib.hid (Vq.out.ext hl)
  have Vr := Lib.hid (Vr.out.ext hl)
  have KC := Lib.hid (Blk.new0 x16 #[.bool false] 49)
  clear hl
  generalize x16.alloc (.cells #[.bool false] 49) = x17 at *
  generalize x16.heap.size = pc at *
  have cb0 := Kb.out.cell (i := 0) (v := .bool nb) rfl
  have cb1 := Kb.out.cell (i := 1) (v := .slice ab qb cb) rfl
  go_upto_region 8 with fail
  have hl := Ext.alloc x17 (.cells #[.bool false, .slice ab qb cb] 24)
  have hx := hx.trans hl
  have Ka := Lib.hid (Ka.out.ext hl)
  have Kb := Lib.hid (Kb.out.ext hl)
  have Kq := Lib.hid (Kq.out.ext hl)
  have Kr := Lib.hid (Kr.out.ext hl)
  have Va := Lib.hid (Va.out.ext hl)
  have Vb := Lib.hid (Vb.out.ext hl)
  have Vq := Lib.hid (Vq.out.ext hl)
  have Vr := Lib.hid (Vr.out.ext hl)
  have KC := Lib.hid (KC.out.ext hl)
  have Ks := Lib.hid (Blk.new0 x17 #[.bool false, .slice ab qb cb] 24)
  clear hl cb0 cb1
  generalize x17.alloc (.cells #[.bool false, .slice ab qb cb] 24) = x18 at *
  generalize x17.heap.size = ps at *
  have Vs := Lib.hid Vb.out.abs
  have Ds : Hid ((zb.natAbs : Int).natAbs < 1073741824 ^ 12) := Lib.hid (by rw [Int.natAbs_natCast]; exact Db.out)
  have Ls := Lib.hid (len_lt Ds.out (by omega))
  have ca0 := Ka.out.cell (i := 0) (v := .bool na) rfl
  have ca1 := Ka.out.cell (i := 1) (v := .slice aa qa ca) rfl
  have cb0 := Kb.out.cell (i := 0) (v := .bool nb) rfl
  have cb1 := Kb.out.cell (i := 1) (v := .slice ab qb cb) rfl
  go_wp2_with fail
  with_reducible refine (div_any Va.out Vb.out La.out Lb.out HB0.out).mono ?_
  rintro e x19 ⟨v, u, rfl, hv, hu, hy⟩
  have hx := hx.trans hy
  have Ka := Lib.hid (Ka.out.ext hy)
  have Kb := Lib.hid (Kb.out.ext hy)
  have Kq := Lib.hid (Kq.out.ext hy)
  have Kr := Lib.hid (Kr.out.ext hy)
  have Va := Lib.hid (Va.out.ext hy)
  have Vb := Lib.hid (Vb.out.ext hy)
  have Vq := Lib.hid (Vq.out.ext hy)
  have Vr := Lib.hid (Vr.out.ext hy)
  have KC := Lib.hid (KC.out.ext hy)
  have Ks := Lib.hid (Ks.out.ext hy)
  have Vs := Lib.hid (Vs.out.ext hy)
  clear hy
  obtain ⟨nx, ax, qx, cx, rfl⟩ := hv.form
  obtain ⟨ny, ay, qy, cy, rfl⟩ := hu.form
  have hny : ny = false := hu.pos (Int.emod_nonneg _ HB0.out)
  subst hny
  have Vx := Lib.hid hv
  have Vy := Lib.hid hu
  clear hv hu
  clear ca0 ca1 cb0 cb1
  go_upto_region 9 with fail
  have hl : Ext x19 ((x19.alloc (.cells #[.bool nx, .slice ax qx cx] 24)).alloc (.cells #[.bool false, .slice ay qy cy] 24)) := (by repeat (first | with_reducible exact Ext.refl _ | with_reducible assumption | with_reducible refine Ext.drewN ?_ _ | with_reducible refine Ext.drew ?_ | with_reducible refine Ext.alloc' ?_ _ | with_reducible refine Ext.set ?_ (by dsimp only; omega) _))
  have hx := hx.trans hl
  have Ka := Lib.hid (Ka.out.ext hl)
  have Kb := Lib.hid (Kb.out.ext hl)
  have Kq := Lib.hid (Kq.out.ext hl)
  have Kr := Lib.hid (Kr.out.ext hl)
  have Va := Lib.hid (Va.out.ext hl)
  have Vb := Lib.hid (Vb.out.ext hl)
  have Vq := Lib.hid (Vq.out.ext hl)
  have Vr := Lib.hid (Vr.out.ext hl)
  have KC := Lib.hid (KC.out.ext hl)
  have Ks := Lib.hid (Ks.out.ext hl)
  have Vs := Lib.hid (Vs.out.ext hl)
  have Vx := Lib.hid (Vx.out.ext hl)
  have Vy := Lib.hid (Vy.out.ext hl)
  have Kx := Lib.hid ((Blk.new0 x19 #[.bool nx, .slice ax qx cx] 24).alloc (.cells #[.bool false, .slice ay qy cy] 24))
  have Ky := Lib.hid (Blk.new1 x19 (.cells #[.bool nx, .slice ax qx cx] 24) #[.bool false, .slice ay qy cy] 24)
  clear hl
  generalize (x19.alloc (.cells #[.bool nx, .slice ax qx cx] 24)).alloc (.cells #[.bool false, .slice ay qy cy] 24) = x20 at *
  generalize x19.heap.size = px at *
  have Dx := Lib.hid (div_lt (y := zb) Da.out)
  have Dy := Lib.hid (mod_lt (x := za) Db.out HB0.out)
  have Lx := Lib.hid (len_lt Dx.out (by omega))
  have Ly := Lib.hid (len_lt Dy.out (by omega))
  have Dm := Lib.hid (mul_lt Dx.out Db.out)
  have Lm := Lib.hid (len_lt Dm.out (by omega))
  have Dn := Lib.hid (add_lt Dm.out (lt_mono Dy.out (show 12 ≤ 12 + 12 by omega)))
  have Ln := Lib.hid (len_lt Dn.out (by omega))
  have HE := Lib.hid (show za / zb * zb + za % zb = za from by rw [Int.mul_comm]; exact Int.mul_ediv_add_emod za zb)
  have HC := Lib.hid (cmpI_lt (show za % zb < (zb.natAbs : Int) from Int.emod_lt za HB0.out))
  go_cut [72] (fun s72 wx => s72 = .bool false ∧ Ext x20 wx)
  case first => as_aux_lemma =>
    have dc0 : x20.cell? ⟨w.heap.size, 0, none⟩ = some (.bool na) := Ka.out.cell (i := 0) rfl
    have dc1 : x20.cell? ⟨w.heap.size, 1, none⟩ = some (.slice aa qa ca) := Ka.out.cell (i := 1) rfl
    have dc2 : x20.cell? ⟨w.heap.size + 1, 0, none⟩ = some (.bool nb) := Kb.out.cell (i := 0) rfl
    have dc3 : x20.cell? ⟨w.heap.size + 1, 1, none⟩ = some (.slice ab qb cb) := Kb.out.cell (i := 1) rfl
    have dc4 : x20.cell? ⟨px, 0, none⟩ = some (.bool nx) := Kx.out.cell (i := 0) rfl
    have dc5 : x20.cell? ⟨px, 1, none⟩ = some (.slice ax qx cx) := Kx.out.cell (i := 1) rfl
    have dc6 : x20.cell? ⟨px + 1, 0, none⟩ = some (.bool false) := Ky.out.cell (i := 0) rfl
    have dc7 : x20.cell? ⟨px + 1, 1, none⟩ = some (.slice ay qy cy) := Ky.out.cell (i := 1) rfl
    have dc8 : x20.cell? ⟨ps, 0, none⟩ = some (.bool false) := Ks.out.cell (i := 0) rfl
    have dc9 : x20.cell? ⟨ps, 1, none⟩ = some (.slice ab qb cb) := Ks.out.cell (i := 1) rfl
    have hE : Ext x20 x20.drew := (Ext.refl _).drew
    refine wp_region_held_drew (S := (fun w' => w'.cell? ⟨w.heap.size, 0, none⟩ = some (.bool na) ∧ w'.cell? ⟨w.heap.size, 1, none⟩ = some (.slice aa qa ca) ∧ w'.cell? ⟨w.heap.size + 1, 0, none⟩ = some (.bool nb) ∧ w'.cell? ⟨w.heap.size + 1, 1, none⟩ = some (.slice ab qb cb) ∧ w'.cell? ⟨px, 0, none⟩ = some (.bool nx) ∧ w'.cell? ⟨px, 1, none⟩ = some (.slice ax qx cx) ∧ w'.cell? ⟨px + 1, 0, none⟩ = some (.bool false) ∧ w'.cell? ⟨px + 1, 1, none⟩ = some (.slice ay qy cy) ∧ w'.cell? ⟨ps, 0, none⟩ = some (.bool false) ∧ w'.cell? ⟨ps, 1, none⟩ = some (.slice ab qb cb))) (by kernel_rfl) ?_ (fun hHeld => ?_)
    · (first | exact ⟨cell_ext hy hHeld.1, cell_ext hy hHeld.2.1, cell_ext hy hHeld.2.2.1, cell_ext hy hHeld.2.2.2.1, cell_ext hy hHeld.2.2.2.2.1, cell_ext hy hHeld.2.2.2.2.2.1, cell_ext hy hHeld.2.2.2.2.2.2.1, cell_ext hy hHeld.2.2.2.2.2.2.2.1, cell_ext hy hHeld.2.2.2.2.2.2.2.2.1, cell_ext hy hHeld.2.2.2.2.2.2.2.2.2⟩ | exact ⟨dc0, dc1, dc2, dc3, dc4, dc5, dc6, dc7, dc8, dc9⟩ | exact hHeld)
    refine wpAnyH_take (i := 0) (oi := _) (v := ?_) rfl (by kernel_rfl) (by kernel_rfl) (by kernel_rfl) (fun _ _ _ h => h) (Or.inl ⟨by rfl, ?_⟩) (by assumption) ?_
    rotate_left
    · (intro w hSw; (try dsimp only at hSw); (try go_simp); (try with_reducible rfl))
    (try simp only [Act.put, List.getElem_toArray, List.getElem_cons_succ, List.getElem_cons_zero, List.setIfInBounds_toArray, List.set_cons_zero, List.set_cons_succ])
    refine wpAnyH_take (i := 1) (oi := _) (v := ?_) rfl (by kernel_rfl) (by kernel_rfl) (by kernel_rfl) (fun _ _ _ h => h) (Or.inl ⟨by rfl, ?_⟩) (by assumption) ?_
    rotate_left
    · (intro w hSw; (try dsimp only at hSw); (try go_simp); (try with_reducible rfl))
    (try simp only [Act.put, List.getElem_toArray, List.getElem_cons_succ, List.getElem_cons_zero, List.setIfInBounds_toArray, List.set_cons_zero, List.set_cons_succ])
    refine wpAnyH_take (i := 2) (oi := _) (v := ?_) rfl (by kernel_rfl) (by kernel_rfl) (by kernel_rfl) (fun _ _ _ h => h) (Or.inl ⟨by rfl, ?_⟩) (by assumption) ?_
    rotate_left
    · (intro w hSw; (try dsimp only at hSw); (try go_simp); (try with_reducible rfl))
    (try simp only [Act.put, List.getElem_toArray, List.getElem_cons_succ, List.getElem_cons_zero, List.setIfInBounds_toArray, List.set_cons_zero, List.set_cons_succ])
    refine wpAnyH_take (i := 3) (oi := _) (v := ?_) rfl (by kernel_rfl) (by kernel_rfl) (by kernel_rfl) (fun _ _ _ h => h) (Or.inl ⟨by rfl, ?_⟩) (by assumption) ?_
    rotate_left
    · (intro w hSw; (try dsimp only at hSw); (try go_simp); (try with_reducible rfl))
    (try simp only [Act.put, List.getElem_toArray, List.getElem_cons_succ, List.getElem_cons_zero, List.setIfInBounds_toArray, List.set_cons_zero, List.set_cons_succ])
    refine wpAnyH_ready (rs := [4]) (by kernel_rfl) (by simp) ?_
    refine AllReadyH.cons (o := _) rfl (fun K hK => ?_) ?_
    · go_simp
      (with_reducible refine (rcheck_val (Vx.out.ext hE) Lx.out).mono ?_); rintro e y1 ⟨rfl, hy⟩; have hE := hE.trans hy
      refine hK.out _ _ ?_ (fun hHeld2 => ?_)
      · (first | exact ⟨cell_ext hy hHeld.1, cell_ext hy hHeld.2.1, cell_ext hy hHeld.2.2.1, cell_ext hy hHeld.2.2.2.1, cell_ext hy hHeld.2.2.2.2.1, cell_ext hy hHeld.2.2.2.2.2.1, cell_ext hy hHeld.2.2.2.2.2.2.1, cell_ext hy hHeld.2.2.2.2.2.2.2.1, cell_ext hy hHeld.2.2.2.2.2.2.2.2.1, cell_ext hy hHeld.2.2.2.2.2.2.2.2.2⟩ | exact ⟨dc0, dc1, dc2, dc3, dc4, dc5, dc6, dc7, dc8, dc9⟩ | exact hHeld)
      clear hK K hHeld
      have hHeld := hHeld2
      clear hHeld2
      (try simp only [Act.put, List.getElem_toArray, List.getElem_cons_succ, List.getElem_cons_zero, List.setIfInBounds_toArray, List.set_cons_zero, List.set_cons_succ])
      refine wpAnyH_take (i := 5) (oi := _) (v := ?_) rfl (by kernel_rfl) (by kernel_rfl) (by kernel_rfl) (fun _ _ _ h => h) (Or.inl ⟨by rfl, ?_⟩) (by assumption) ?_
      rotate_left
      · (intro w hSw; (try dsimp only at hSw); (try go_simp); (try with_reducible rfl))
      (try simp only [Act.put, List.getElem_toArray, List.getElem_cons_succ, List.getElem_cons_zero, List.setIfInBounds_toArray, List.set_cons_zero, List.set_cons_succ])
      refine wpAnyH_take (i := 6) (oi := _) (v := ?_) rfl (by kernel_rfl) (by kernel_rfl) (by kernel_rfl) (fun _ _ _ h => h) (Or.inl ⟨by rfl, ?_⟩) (by assumption) ?_
      rotate_left
      · (intro w hSw; (try dsimp only at hSw); (try go_simp); (try with_reducible rfl))
      (try simp only [Act.put, List.getElem_toArray, List.getElem_cons_succ, List.getElem_cons_zero, List.setIfInBounds_toArray, List.set_cons_zero, List.set_cons_succ])
      refine wpAnyH_take (i := 7) (oi := _) (v := ?_) rfl (by kernel_rfl) (by kernel_rfl) (by kernel_rfl) (fun _ _ _ h => h) (Or.inl ⟨by rfl, ?_⟩) (by assumption) ?_
      rotate_left
      · (intro w hSw; (try dsimp only at hSw); (try go_simp); (try with_reducible rfl))
      (try simp only [Act.put, List.getElem_toArray, List.getElem_cons_succ, List.getElem_cons_zero, List.setIfInBounds_toArray, List.set_cons_zero, List.set_cons_succ])
      refine wpAnyH_take (i := 8) (oi := _) (v := ?_) rfl (by kernel_rfl) (by kernel_rfl) (by kernel_rfl) (fun _ _ _ h => h) (Or.inl ⟨by rfl, ?_⟩) (by assumption) ?_
      rotate_left
      · (intro w hSw; (try dsimp only at hSw); (try go_simp); (try with_reducible rfl))
      (try simp only [Act.put, List.getElem_toArray, List.getElem_cons_succ, List.getElem_cons_zero, List.setIfInBounds_toArray, List.set_cons_zero, List.set_cons_succ])
      refine wpAnyH_ready (rs := [9]) (by kernel_rfl) (by simp) ?_
      refine AllReadyH.cons (o := _) rfl (fun K hK => ?_) ?_
      · go_simp
        (with_reducible refine (rcheck_val (Vy.out.ext hE) Ly.out).mono ?_); rintro e y2 ⟨rfl, hy⟩; have hE := hE.trans hy
        refine hK.out _ _ ?_ (fun hHeld2 => ?_)
        · (first | exact ⟨cell_ext hy hHeld.1, cell_ext hy hHeld.2.1, cell_ext hy hHeld.2.2.1, cell_ext hy hHeld.2.2.2.1, cell_ext hy hHeld.2.2.2.2.1, cell_ext hy hHeld.2.2.2.2.2.1, cell_ext hy hHeld.2.2.2.2.2.2.1, cell_ext hy hHeld.2.2.2.2.2.2.2.1, cell_ext hy hHeld.2.2.2.2.2.2.2.2.1, cell_ext hy hHeld.2.2.2.2.2.2.2.2.2⟩ | exact ⟨dc0, dc1, dc2, dc3, dc4, dc5, dc6, dc7, dc8, dc9⟩ | exact hHeld)
        clear hK K hHeld
        have hHeld := hHeld2
        clear hHeld2
        (try simp only [Act.put, List.getElem_toArray, List.getElem_cons_succ, List.getElem_cons_zero, List.setIfInBounds_toArray, List.set_cons_zero, List.set_cons_succ])
        refine wpAnyH_take (i := 10) (oi := _) (v := ?_) rfl (by kernel_rfl) (by kernel_rfl) (by kernel_rfl) (fun _ _ _ h => h) (Or.inl ⟨by rfl, ?_⟩) (by assumption) ?_
        rotate_left
        · (intro w hSw; (try dsimp only at hSw); (try go_simp); (try with_reducible rfl))
        (try simp only [Act.put, List.getElem_toArray, List.getElem_cons_succ, List.getElem_cons_zero, List.setIfInBounds_toArray, List.set_cons_zero, List.set_cons_succ])
        refine wpAnyH_take (i := 11) (oi := _) (v := ?_) rfl (by kernel_rfl) (by kernel_rfl) (by kernel_rfl) (fun _ _ _ h => h) (Or.inl ⟨by rfl, ?_⟩) (by assumption) ?_
        rotate_left
        · (intro w hSw; (try dsimp only at hSw); (try go_simp); (try with_reducible rfl))
        (try simp only [Act.put, List.getElem_toArray, List.getElem_cons_succ, List.getElem_cons_zero, List.setIfInBounds_toArray, List.set_cons_zero, List.set_cons_succ])
        refine wpAnyH_take (i := 12) (oi := _) (v := ?_) rfl (by kernel_rfl) (by kernel_rfl) (by kernel_rfl) (fun _ _ _ h => h) (Or.inl ⟨by rfl, ?_⟩) (by assumption) ?_
        rotate_left
        · (intro w hSw; (try dsimp only at hSw); (try go_simp); (try with_reducible rfl))
        (try simp only [Act.put, List.getElem_toArray, List.getElem_cons_succ, List.getElem_cons_zero, List.setIfInBounds_toArray, List.set_cons_zero, List.set_cons_succ])
        refine wpAnyH_take (i := 13) (oi := _) (v := ?_) rfl (by kernel_rfl) (by kernel_rfl) (by kernel_rfl) (fun _ _ _ h => h) (Or.inl ⟨by rfl, ?_⟩) (by assumption) ?_
        rotate_left
        · (intro w hSw; (try dsimp only at hSw); (try go_simp); (try with_reducible rfl))
        (try simp only [Act.put, List.getElem_toArray, List.getElem_cons_succ, List.getElem_cons_zero, List.setIfInBounds_toArray, List.set_cons_zero, List.set_cons_succ])
        refine wpAnyH_take (i := 14) (oi := _) (v := ?_) rfl (by kernel_rfl) (by kernel_rfl) (by kernel_rfl) (fun _ _ _ h => h) (Or.inl ⟨by rfl, ?_⟩) (by assumption) ?_
        rotate_left
        · (intro w hSw; (try dsimp only at hSw); (try go_simp); (try with_reducible rfl))
        (try simp only [Act.put, List.getElem_toArray, List.getElem_cons_succ, List.getElem_cons_zero, List.setIfInBounds_toArray, List.set_cons_zero, List.set_cons_succ])
        refine wpAnyH_take (i := 16) (oi := _) (v := ?_) rfl (by kernel_rfl) (by kernel_rfl) (by kernel_rfl) (fun _ _ _ h => h) (Or.inl ⟨by rfl, ?_⟩) (by assumption) ?_
        rotate_left
        · (intro w hSw; (try dsimp only at hSw); (try go_simp); (try with_reducible rfl))
        (try simp only [Act.put, List.getElem_toArray, List.getElem_cons_succ, List.getElem_cons_zero, List.setIfInBounds_toArray, List.set_cons_zero, List.set_cons_succ])
        refine wpAnyH_take (i := 18) (oi := _) (v := ?_) rfl (by kernel_rfl) (by kernel_rfl) (by kernel_rfl) (fun _ _ _ h => h) (Or.inl ⟨by rfl, ?_⟩) (by assumption) ?_
        rotate_left
        · (intro w hSw; (try dsimp only at hSw); (try go_simp); (try with_reducible rfl))
        (try simp only [Act.put, List.getElem_toArray, List.getElem_cons_succ, List.getElem_cons_zero, List.setIfInBounds_toArray, List.set_cons_zero, List.set_cons_succ])
        refine wpAnyH_ready (rs := [15]) (by kernel_rfl) (by simp) ?_
        refine AllReadyH.cons (o := _) rfl (fun K hK => ?_) ?_
        · go_simp
          (with_reducible refine (calc_mul pc _ (KC.out.ext hE) (Vx.out.ext hE) (Vb.out.ext hE) Lx.out Lb.out Lm.out).mono ?_); rintro e y3 ⟨v3, rfl, hv3, hy⟩; have hv3 := hv3.val; have hE := hE.trans hy
          refine hK.out _ _ ?_ (fun hHeld2 => ?_)
          · (first | exact ⟨cell_ext hy hHeld.1, cell_ext hy hHeld.2.1, cell_ext hy hHeld.2.2.1, cell_ext hy hHeld.2.2.2.1, cell_ext hy hHeld.2.2.2.2.1, cell_ext hy hHeld.2.2.2.2.2.1, cell_ext hy hHeld.2.2.2.2.2.2.1, cell_ext hy hHeld.2.2.2.2.2.2.2.1, cell_ext hy hHeld.2.2.2.2.2.2.2.2.1, cell_ext hy hHeld.2.2.2.2.2.2.2.2.2⟩ | exact ⟨dc0, dc1, dc2, dc3, dc4, dc5, dc6, dc7, dc8, dc9⟩ | exact hHeld)
          clear hK K hHeld
          have hHeld := hHeld2
          clear hHeld2
          (try simp only [Act.put, List.getElem_toArray, List.getElem_cons_succ, List.getElem_cons_zero, List.setIfInBounds_toArray, List.set_cons_zero, List.set_cons_succ])
          refine wpAnyH_ready (rs := [17]) (by kernel_rfl) (by simp) ?_
          refine AllReadyH.cons (o := _) rfl (fun K hK => ?_) ?_
          · go_simp
            (with_reducible refine (calc_add pc _ (KC.out.ext hE) hv3 (Vy.out.ext hE) Lm.out Ly.out Ln.out).mono ?_); rintro e y4 ⟨v4, rfl, hv4, hy⟩; have hv4 := hv4.val; have hE := hE.trans hy
            refine hK.out _ _ ?_ (fun hHeld2 => ?_)
            · (first | exact ⟨cell_ext hy hHeld.1, cell_ext hy hHeld.2.1, cell_ext hy hHeld.2.2.1, cell_ext hy hHeld.2.2.2.1, cell_ext hy hHeld.2.2.2.2.1, cell_ext hy hHeld.2.2.2.2.2.1, cell_ext hy hHeld.2.2.2.2.2.2.1, cell_ext hy hHeld.2.2.2.2.2.2.2.1, cell_ext hy hHeld.2.2.2.2.2.2.2.2.1, cell_ext hy hHeld.2.2.2.2.2.2.2.2.2⟩ | exact ⟨dc0, dc1, dc2, dc3, dc4, dc5, dc6, dc7, dc8, dc9⟩ | exact hHeld)
            clear hK K hHeld
            have hHeld := hHeld2
            clear hHeld2
            (try simp only [Act.put, List.getElem_toArray, List.getElem_cons_succ, List.getElem_cons_zero, List.setIfInBounds_toArray, List.set_cons_zero, List.set_cons_succ])
            refine wpAnyH_ready (rs := [19]) (by kernel_rfl) (by simp) ?_
            refine AllReadyH.cons (o := _) rfl (fun K hK => ?_) ?_
            · go_simp
              (with_reducible refine (sameT hv4 (Va.out.ext hE) HE.out).mono ?_); rintro e y5 ⟨rfl, hy⟩; have hE := hE.trans hy
              refine hK.out _ _ ?_ (fun hHeld2 => ?_)
              · (first | exact ⟨cell_ext hy hHeld.1, cell_ext hy hHeld.2.1, cell_ext hy hHeld.2.2.1, cell_ext hy hHeld.2.2.2.1, cell_ext hy hHeld.2.2.2.2.1, cell_ext hy hHeld.2.2.2.2.2.1, cell_ext hy hHeld.2.2.2.2.2.2.1, cell_ext hy hHeld.2.2.2.2.2.2.2.1, cell_ext hy hHeld.2.2.2.2.2.2.2.2.1, cell_ext hy hHeld.2.2.2.2.2.2.2.2.2⟩ | exact ⟨dc0, dc1, dc2, dc3, dc4, dc5, dc6, dc7, dc8, dc9⟩ | exact hHeld)
              clear hK K hHeld
              have hHeld := hHeld2
              clear hHeld2
              (try simp only [Act.put, List.getElem_toArray, List.getElem_cons_succ, List.getElem_cons_zero, List.setIfInBounds_toArray, List.set_cons_zero, List.set_cons_succ])
              refine wpAnyH_take (i := 20) (oi := _) (v := ?_) rfl (by kernel_rfl) (by kernel_rfl) (by kernel_rfl) (fun _ _ _ h => h) (Or.inl ⟨by rfl, ?_⟩) (by assumption) ?_
              rotate_left
              · (intro w hSw; (try dsimp only at hSw); (try go_simp); (try with_reducible rfl))
              (try simp only [Act.put, List.getElem_toArray, List.getElem_cons_succ, List.getElem_cons_zero, List.setIfInBounds_toArray, List.set_cons_zero, List.set_cons_succ])
              refine wpAnyH_take (i := 21) (oi := _) (v := ?_) rfl (by kernel_rfl) (by kernel_rfl) (by kernel_rfl) (fun _ _ _ h => h) (Or.inl ⟨by rfl, ?_⟩) (by assumption) ?_
              rotate_left
              · (intro w hSw; (try dsimp only at hSw); (try go_simp); (try with_reducible rfl))
              (try simp only [Act.put, List.getElem_toArray, List.getElem_cons_succ, List.getElem_cons_zero, List.setIfInBounds_toArray, List.set_cons_zero, List.set_cons_succ])
              refine wpAnyH_take (i := 22) (oi := _) (v := ?_) rfl (by kernel_rfl) (by kernel_rfl) (by kernel_rfl) (fun _ _ _ h => h) (Or.inl ⟨by rfl, ?_⟩) (by assumption) ?_
              rotate_left
              · (intro w hSw; (try dsimp only at hSw); (try go_simp); (try with_reducible rfl))
              (try simp only [Act.put, List.getElem_toArray, List.getElem_cons_succ, List.getElem_cons_zero, List.setIfInBounds_toArray, List.set_cons_zero, List.set_cons_succ])
              refine wpAnyH_take (i := 23) (oi := _) (v := ?_) rfl (by kernel_rfl) (by kernel_rfl) (by kernel_rfl) (fun _ _ _ h => h) (Or.inl ⟨by rfl, ?_⟩) (by assumption) ?_
              rotate_left
              · (intro w hSw; (try dsimp only at hSw); (try go_simp); (try with_reducible rfl))
              (try simp only [Act.put, List.getElem_toArray, List.getElem_cons_succ, List.getElem_cons_zero, List.setIfInBounds_toArray, List.set_cons_zero, List.set_cons_succ])
              refine wpAnyH_take (i := 24) (oi := _) (v := ?_) rfl (by kernel_rfl) (by kernel_rfl) (by kernel_rfl) (fun _ _ _ h => h) (Or.inl ⟨by rfl, ?_⟩) (by assumption) ?_
              rotate_left
              · (intro w hSw; (try dsimp only at hSw); (try go_simp); (try with_reducible rfl))
              (try simp only [Act.put, List.getElem_toArray, List.getElem_cons_succ, List.getElem_cons_zero, List.setIfInBounds_toArray, List.set_cons_zero, List.set_cons_succ])
              refine wpAnyH_take (i := 25) (oi := _) (v := ?_) rfl (by kernel_rfl) (by kernel_rfl) (by kernel_rfl) (fun _ _ _ h => h) (Or.inl ⟨by rfl, ?_⟩) (by assumption) ?_
              rotate_left
              · (intro w hSw; (try dsimp only at hSw); (try go_simp); (try with_reducible rfl))
              (try simp only [Act.put, List.getElem_toArray, List.getElem_cons_succ, List.getElem_cons_zero, List.setIfInBounds_toArray, List.set_cons_zero, List.set_cons_succ])
              refine wpAnyH_take (i := 26) (oi := _) (v := ?_) rfl (by kernel_rfl) (by kernel_rfl) (by kernel_rfl) (fun _ _ _ h => h) (Or.inl ⟨by rfl, ?_⟩) (by assumption) ?_
              rotate_left
              · (intro w hSw; (try dsimp only at hSw); (try go_simp); (try with_reducible rfl))
              (try simp only [Act.put, List.getElem_toArray, List.getElem_cons_succ, List.getElem_cons_zero, List.setIfInBounds_toArray, List.set_cons_zero, List.set_cons_succ])
              refine wpAnyH_take (i := 27) (oi := _) (v := ?_) rfl (by kernel_rfl) (by kernel_rfl) (by kernel_rfl) (fun _ _ _ h => h) (Or.inl ⟨by rfl, ?_⟩) (by assumption) ?_
              rotate_left
              · (intro w hSw; (try dsimp only at hSw); (try go_simp); (try with_reducible rfl))
              (try simp only [Act.put, List.getElem_toArray, List.getElem_cons_succ, List.getElem_cons_zero, List.setIfInBounds_toArray, List.set_cons_zero, List.set_cons_succ])
              refine wpAnyH_take (i := 28) (oi := _) (v := ?_) rfl (by kernel_rfl) (by kernel_rfl) (by kernel_rfl) (fun _ _ _ h => h) (Or.inl ⟨by rfl, ?_⟩) (by assumption) ?_
              rotate_left
              · (intro w hSw; (try dsimp only at hSw); (try go_simp); (try with_reducible rfl))
              (try simp only [Act.put, List.getElem_toArray, List.getElem_cons_succ, List.getElem_cons_zero, List.setIfInBounds_toArray, List.set_cons_zero, List.set_cons_succ])
              refine wpAnyH_ready (rs := [29]) (by kernel_rfl) (by simp) ?_
              refine AllReadyH.cons (o := _) rfl (fun K hK => ?_) ?_
              · go_simp
                (with_reducible refine (calc_cmp pc _ (KC.out.ext hE) (Vy.out.ext hE) (Vs.out.ext hE) Ly.out Ls.out).mono ?_); rintro e y6 ⟨rfl, hy⟩; rw [HC.out]; have hE := hE.trans hy
                refine hK.out _ _ ?_ (fun hHeld2 => ?_)
                · (first | exact ⟨cell_ext hy hHeld.1, cell_ext hy hHeld.2.1, cell_ext hy hHeld.2.2.1, cell_ext hy hHeld.2.2.2.1, cell_ext hy hHeld.2.2.2.2.1, cell_ext hy hHeld.2.2.2.2.2.1, cell_ext hy hHeld.2.2.2.2.2.2.1, cell_ext hy hHeld.2.2.2.2.2.2.2.1, cell_ext hy hHeld.2.2.2.2.2.2.2.2.1, cell_ext hy hHeld.2.2.2.2.2.2.2.2.2⟩ | exact ⟨dc0, dc1, dc2, dc3, dc4, dc5, dc6, dc7, dc8, dc9⟩ | exact hHeld)
                clear hK K hHeld
                have hHeld := hHeld2
                clear hHeld2
                (try simp only [Act.put, List.getElem_toArray, List.getElem_cons_succ, List.getElem_cons_zero, List.setIfInBounds_toArray, List.set_cons_zero, List.set_cons_succ])
                refine wpAnyH_take (i := 30) (oi := _) (v := ?_) rfl (by kernel_rfl) (by kernel_rfl) (by kernel_rfl) (fun _ _ _ h => h) (Or.inl ⟨by rfl, ?_⟩) (by assumption) ?_
                rotate_left
                · (intro w hSw; (try dsimp only at hSw); (try go_simp); (try with_reducible rfl))
                (try simp only [Act.put, List.getElem_toArray, List.getElem_cons_succ, List.getElem_cons_zero, List.setIfInBounds_toArray, List.set_cons_zero, List.set_cons_succ])
                refine wpAnyH_take (i := 31) (oi := _) (v := ?_) rfl (by kernel_rfl) (by kernel_rfl) (by kernel_rfl) (fun _ _ _ h => h) (Or.inl ⟨by rfl, ?_⟩) (by assumption) ?_
                rotate_left
                · (intro w hSw; (try dsimp only at hSw); (try go_simp); (try with_reducible rfl))
                (try simp only [Act.put, List.getElem_toArray, List.getElem_cons_succ, List.getElem_cons_zero, List.setIfInBounds_toArray, List.set_cons_zero, List.set_cons_succ])
                refine wpAnyH_done (by kernel_rfl) ?_ _
                (go_wp2_with fail; go_meet; exact ⟨rfl, hE⟩)
              exact AllReadyH.nil
            exact AllReadyH.nil
          exact AllReadyH.nil
        exact AllReadyH.nil
      exact AllReadyH.nil
    exact AllReadyH.nil
  case rest =>
  obtain ⟨rfl, hy⟩ := hcut
  have hx := hx.trans hy
  have Ka := Lib.hid (Ka.out.ext hy)
  have Kb := Lib.hid (Kb.out.ext hy)
  have Kq := Lib.hid (Kq.out.ext hy)
  have Kr := Lib.hid (Kr.out.ext hy)
  have Va := Lib.hid (Va.out.ext hy)
  have Vb := Lib.hid (Vb.out.ext hy)
  have Vq := Lib.hid (Vq.out.ext hy)
  have Vr := Lib.hid (Vr.out.ext hy)
  have KC := Lib.hid (KC.out.ext hy)
  have Ks := Lib.hid (Ks.out.ext hy)
  have Vs := Lib.hid (Vs.out.ext hy)
  have Vx := Lib.hid (Vx.out.ext hy)
  have Vy := Lib.hid (Vy.out.ext hy)
  have Kx := Lib.hid (Kx.out.ext hy)
  have Ky := Lib.hid (Ky.out.ext hy)
  clear hy HE HC
  have hnr := HNR.out
  subst hnr
  have kc := KC.out.cell (i := 0) (v := .bool false) rfl
  have cr0 := Kr.out.cell (i := 0) (v := .bool false) rfl
  have cr1 := Kr.out.cell (i := 1) (v := .slice ar qr cr) rfl
  have cs0 := Ks.out.cell (i := 0) (v := .bool false) rfl
  have cs1 := Ks.out.cell (i := 1) (v := .slice ab qb cb) rfl
  obtain ⟨p, hp⟩ : ∃ p, cmpI zr (zb.natAbs : Int) = p := ⟨_, rfl⟩
  have t3 : decide (0 ≤ p) = true := by rw [← hp]; have h := HN.out.2; unfold cmpI; split <;> (try split) <;> simp <;> omega
  go_wp2_with fail
  with_reducible refine (calc_cmp pc _ KC.out Vr.out Vs.out Lr.out Ls.out).mono ?_
  rintro e x21 ⟨rfl, hy⟩
  rw [hp]
  clear hp
  have hx := hx.trans hy
  have Ka := Lib.hid (Ka.out.ext hy)
  have Kb := Lib.hid (Kb.out.ext hy)
  have Kq := Lib.hid (Kq.out.ext hy)
  have Kr := Lib.hid (Kr.out.ext hy)
  have Va := Lib.hid (Va.out.ext hy)
  have Vb := Lib.hid (Vb.out.ext hy)
  have Vq := Lib.hid (Vq.out.ext hy)
  have Vr := Lib.hid (Vr.out.ext hy)
  have KC := Lib.hid (KC.out.ext hy)
  have Ks := Lib.hid (Ks.out.ext hy)
  have Vs := Lib.hid (Vs.out.ext hy)
  have Vx := Lib.hid (Vx.out.ext hy)
  have Vy := Lib.hid (Vy.out.ext hy)
  have Kx := Lib.hid (Kx.out.ext hy)
  have Ky := Lib.hid (Ky.out.ext hy)
  clear hy kc cr0 cr1 cs0 cs1
  have kc := KC.out.cell (i := 0) (v := .bool false) rfl
  go_wp2_with fail
  go_ret
  exact ⟨rfl, hx⟩
end Go.Proofs.YtpaaanbcadlhiaaDoor
