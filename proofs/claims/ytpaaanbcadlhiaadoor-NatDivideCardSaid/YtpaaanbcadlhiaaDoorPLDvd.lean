import Derived.Test.YtpaaanbcadlhiaaDoorPLDvd3
import Derived.Deep.DeepCutAuto
namespace Go.Proofs.YtpaaanbcadlhiaaDoor
open Go.RowKit Go BigFrame
set_option maxRecDepth 100000
set_option linter.unusedSimpArgs false
set_option linter.unusedVariables false

set_option maxHeartbeats 8000000 in
theorem law_Dvd4 (na nb nq nr : Bool) (aa ab aq ar : Option Addr) (qa qb qq qr ca cb cq cr : Nat) (la_ lb_ lq_ lr_ : List Int) (w : World) (ha : Ints w aa ca la_) (hb : Ints w ab cb lb_) (hq : Ints w aq cq lq_) (hr : Ints w ar cr lr_) (la : la_.length = qa) (lb : lb_.length = qb) (lq : lq_.length = qq) (lr : lr_.length = qr) (hv : ∀ x ∈ ([⟨na, aa, ca, la_⟩, ⟨nb, ab, cb, lb_⟩, ⟨nq, aq, cq, lq_⟩, ⟨nr, ar, cr, lr_⟩] : List BigA), okA x = true) (h0 : qb ≠ 0) (hn : nr = false) (hc : dval lr_ < (dval lb_).natAbs) :
    Calls Tryd.prog 10 #[.agg #[.bool na, .slice aa qa ca], .agg #[.bool nb, .slice ab qb cb], .agg #[.bool nq, .slice aq qq cq], .agg #[.bool nr, .slice ar qr cr]] w fun e w' => e = .returned (.bool true) ∧ Ext w w' := by
  have HNR := Lib.hid hn
  clear hn
  have tq : ((qb : Int) == 0) = false := by simp; omega
  have tq2 : (qb == 0) = false := by simp; omega
  have H0 := Lib.hid h0
  clear h0
  have HC0 := Lib.hid hc
  clear hc
  have HIa := Lib.hid ha
  have HLa := Lib.hid la
  have HIb := Lib.hid hb
  have HLb := Lib.hid lb
  have HIq := Lib.hid hq
  have HLq := Lib.hid lq
  have HIr := Lib.hid hr
  have HLr := Lib.hid lr
  have HV := Lib.hid hv
  clear la lb lq lr ha hb hq hr hv
  have hx : Ext w (((((w).alloc (.cells #[.bool na, .slice aa qa ca] 24)).alloc (.cells #[.bool nb, .slice ab qb cb] 24)).alloc (.cells #[.bool nq, .slice aq qq cq] 24)).alloc (.cells #[.bool nr, .slice ar qr cr] 24)) := (by repeat (first | with_reducible exact Ext.refl _ | with_reducible assumption | with_reducible refine Ext.drewN ?_ _ | with_reducible refine Ext.drew ?_ | with_reducible refine Ext.alloc' ?_ _ | with_reducible refine Ext.set ?_ (by dsimp only; omega) _))
  have Ka : Blk (((((w).alloc (.cells #[.bool na, .slice aa qa ca] 24)).alloc (.cells #[.bool nb, .slice ab qb cb] 24)).alloc (.cells #[.bool nq, .slice aq qq cq] 24)).alloc (.cells #[.bool nr, .slice ar qr cr] 24)) (w.heap.size) #[.bool na, .slice aa qa ca] 24 := by have h := (((Blk.new0 (w) #[.bool na, .slice aa qa ca] 24).alloc (.cells #[.bool nb, .slice ab qb cb] 24)).alloc (.cells #[.bool nq, .slice aq qq cq] 24)).alloc (.cells #[.bool nr, .slice ar qr cr] 24); simpa [Nat.add_assoc] using h
  have Ka := Lib.hid Ka
  have Kb : Blk (((((w).alloc (.cells #[.bool na, .slice aa qa ca] 24)).alloc (.cells #[.bool nb, .slice ab qb cb] 24)).alloc (.cells #[.bool nq, .slice aq qq cq] 24)).alloc (.cells #[.bool nr, .slice ar qr cr] 24)) (w.heap.size + 1) #[.bool nb, .slice ab qb cb] 24 := by have h := ((Blk.new0 ((w).alloc (.cells #[.bool na, .slice aa qa ca] 24)) #[.bool nb, .slice ab qb cb] 24).alloc (.cells #[.bool nq, .slice aq qq cq] 24)).alloc (.cells #[.bool nr, .slice ar qr cr] 24); simpa [Nat.add_assoc] using h
  have Kb := Lib.hid Kb
  have Kq : Blk (((((w).alloc (.cells #[.bool na, .slice aa qa ca] 24)).alloc (.cells #[.bool nb, .slice ab qb cb] 24)).alloc (.cells #[.bool nq, .slice aq qq cq] 24)).alloc (.cells #[.bool nr, .slice ar qr cr] 24)) (w.heap.size + 2) #[.bool nq, .slice aq qq cq] 24 := by have h := (Blk.new0 (((w).alloc (.cells #[.bool na, .slice aa qa ca] 24)).alloc (.cells #[.bool nb, .slice ab qb cb] 24)) #[.bool nq, .slice aq qq cq] 24).alloc (.cells #[.bool nr, .slice ar qr cr] 24); simpa [Nat.add_assoc] using h
  have Kq := Lib.hid Kq
  have Kr : Blk (((((w).alloc (.cells #[.bool na, .slice aa qa ca] 24)).alloc (.cells #[.bool nb, .slice ab qb cb] 24)).alloc (.cells #[.bool nq, .slice aq qq cq] 24)).alloc (.cells #[.bool nr, .slice ar qr cr] 24)) (w.heap.size + 3) #[.bool nr, .slice ar qr cr] 24 := by have h := Blk.new0 ((((w).alloc (.cells #[.bool na, .slice aa qa ca] 24)).alloc (.cells #[.bool nb, .slice ab qb cb] 24)).alloc (.cells #[.bool nq, .slice aq qq cq] 24)) #[.bool nr, .slice ar qr cr] 24; simpa [Nat.add_assoc] using h
  have Kr := Lib.hid Kr
  go_enter Tryd.func10, Tryd.ntmps10
  go_upto_region 1 with fail
  try simp only [Nat.add_assoc, Nat.reduceAdd, Nat.add_zero]
  generalize ((((w).alloc (.cells #[.bool na, .slice aa qa ca] 24)).alloc (.cells #[.bool nb, .slice ab qb cb] 24)).alloc (.cells #[.bool nq, .slice aq qq cq] 24)).alloc (.cells #[.bool nr, .slice ar qr cr] 24) = x22 at *
  go_wp2_with fail
  with_reducible refine (law09Sane _).mono ?_
  rintro e x23 ⟨rfl, hy⟩
  have hx := hx.trans hy
  have Ka := Lib.hid (Ka.out.ext hy)
  have Kb := Lib.hid (Kb.out.ext hy)
  have Kq := Lib.hid (Kq.out.ext hy)
  have Kr := Lib.hid (Kr.out.ext hy)
  clear hy
  have ca0 := Ka.out.cell (i := 0) (v := .bool na) rfl
  have ca1 := Ka.out.cell (i := 1) (v := .slice aa qa ca) rfl
  have cb0 := Kb.out.cell (i := 0) (v := .bool nb) rfl
  have cb1 := Kb.out.cell (i := 1) (v := .slice ab qb cb) rfl
  have cq0 := Kq.out.cell (i := 0) (v := .bool nq) rfl
  have cq1 := Kq.out.cell (i := 1) (v := .slice aq qq cq) rfl
  have cr0 := Kr.out.cell (i := 0) (v := .bool nr) rfl
  have cr1 := Kr.out.cell (i := 1) (v := .slice ar qr cr) rfl
  have hl := Ext.alloc x23 (.cells #[.bool na, .slice aa qa ca, .bool nb, .slice ab qb cb, .bool nq, .slice aq qq cq, .bool nr, .slice ar qr cr] 24)
  have hrow : BigRow (x23.alloc (.cells #[.bool na, .slice aa qa ca, .bool nb, .slice ab qb cb, .bool nq, .slice aq qq cq, .bool nr, .slice ar qr cr] 24)) x23.heap.size [⟨na, aa, ca, la_⟩, ⟨nb, ab, cb, lb_⟩, ⟨nq, aq, cq, lq_⟩, ⟨nr, ar, cr, lr_⟩] := by
    have hB := Blk.new0 x23 #[.bool na, .slice aa qa ca, .bool nb, .slice ab qb cb, .bool nq, .slice aq qq cq, .bool nr, .slice ar qr cr] 24
    have hxl := hx.trans hl
    rw [← HLa.out, ← HLb.out, ← HLq.out, ← HLr.out] at hB hxl ⊢
    exact bigRow4 hB (HIa.out.ext hxl) (HIb.out.ext hxl) (HIq.out.ext hxl) (HIr.out.ext hxl)
  have HROW := Lib.hid hrow
  clear hrow
  have HVAL := Lib.hid (law_valid_yes _ _ _ HROW.out (by simp) HV.out)
  simp only [List.length_cons, List.length_nil, Nat.zero_add, Nat.reduceAdd] at HVAL
  go_wp2_with fail
  with_reducible refine (HVAL.out).mono ?_
  rintro e x24 ⟨rfl, hy⟩
  have hx := hx.trans (hl.trans hy)
  have Ka := Lib.hid (Ka.out.ext (hl.trans hy))
  have Kb := Lib.hid (Kb.out.ext (hl.trans hy))
  have Kq := Lib.hid (Kq.out.ext (hl.trans hy))
  have Kr := Lib.hid (Kr.out.ext (hl.trans hy))
  clear hl hy HROW HVAL
  clear ca0 ca1 cb0 cb1 cq0 cq1 cr0 cr1
  have cb0 := Kb.out.cell (i := 0) (v := .bool nb) rfl
  have cb1 := Kb.out.cell (i := 1) (v := .slice ab qb cb) rfl
  go_upto_region 5 with fail
  clear cb0 cb1
  obtain ⟨hBa, hDa⟩ := okA_z (HV.out _ (show (⟨na, aa, ca, la_⟩ : BigA) ∈ ([⟨na, aa, ca, la_⟩, ⟨nb, ab, cb, lb_⟩, ⟨nq, aq, cq, lq_⟩, ⟨nr, ar, cr, lr_⟩] : List BigA) from by simp))
  obtain ⟨za, hza⟩ : ∃ z, sgn na (dval la_) = z := ⟨_, rfl⟩
  have Va : Hid (BigV w (.agg #[.bool na, .slice aa qa ca]) za) := Lib.hid ⟨na, la_, ⟨aa, ca, by rw [HLa.out], HIa.out⟩, by rw [← hza]; exact hBa⟩
  have Va := Lib.hid (Va.out.ext hx)
  have Da : Hid (za.natAbs < 1073741824 ^ 12) := Lib.hid (abs_lt (by rw [← hza]; exact hDa))
  have La : Hid (Len za) := Lib.hid (len_lt Da.out (by omega))
  obtain ⟨hBb, hDb⟩ := okA_z (HV.out _ (show (⟨nb, ab, cb, lb_⟩ : BigA) ∈ ([⟨na, aa, ca, la_⟩, ⟨nb, ab, cb, lb_⟩, ⟨nq, aq, cq, lq_⟩, ⟨nr, ar, cr, lr_⟩] : List BigA) from by simp))
  obtain ⟨zb, hzb⟩ : ∃ z, sgn nb (dval lb_) = z := ⟨_, rfl⟩
  have Vb : Hid (BigV w (.agg #[.bool nb, .slice ab qb cb]) zb) := Lib.hid ⟨nb, lb_, ⟨ab, cb, by rw [HLb.out], HIb.out⟩, by rw [← hzb]; exact hBb⟩
  have Vb := Lib.hid (Vb.out.ext hx)
  have Db : Hid (zb.natAbs < 1073741824 ^ 12) := Lib.hid (abs_lt (by rw [← hzb]; exact hDb))
  have Lb : Hid (Len zb) := Lib.hid (len_lt Db.out (by omega))
  obtain ⟨hBq, hDq⟩ := okA_z (HV.out _ (show (⟨nq, aq, cq, lq_⟩ : BigA) ∈ ([⟨na, aa, ca, la_⟩, ⟨nb, ab, cb, lb_⟩, ⟨nq, aq, cq, lq_⟩, ⟨nr, ar, cr, lr_⟩] : List BigA) from by simp))
  obtain ⟨zq, hzq⟩ : ∃ z, sgn nq (dval lq_) = z := ⟨_, rfl⟩
  have Vq : Hid (BigV w (.agg #[.bool nq, .slice aq qq cq]) zq) := Lib.hid ⟨nq, lq_, ⟨aq, cq, by rw [HLq.out], HIq.out⟩, by rw [← hzq]; exact hBq⟩
  have Vq := Lib.hid (Vq.out.ext hx)
  have Dq : Hid (zq.natAbs < 1073741824 ^ 12) := Lib.hid (abs_lt (by rw [← hzq]; exact hDq))
  have Lq : Hid (Len zq) := Lib.hid (len_lt Dq.out (by omega))
  obtain ⟨hBr, hDr⟩ := okA_z (HV.out _ (show (⟨nr, ar, cr, lr_⟩ : BigA) ∈ ([⟨na, aa, ca, la_⟩, ⟨nb, ab, cb, lb_⟩, ⟨nq, aq, cq, lq_⟩, ⟨nr, ar, cr, lr_⟩] : List BigA) from by simp))
  obtain ⟨zr, hzr⟩ : ∃ z, sgn nr (dval lr_) = z := ⟨_, rfl⟩
  have Vr : Hid (BigV w (.agg #[.bool nr, .slice ar qr cr]) zr) := Lib.hid ⟨nr, lr_, ⟨ar, cr, by rw [HLr.out], HIr.out⟩, by rw [← hzr]; exact hBr⟩
  have Vr := Lib.hid (Vr.out.ext hx)
  have Dr : Hid (zr.natAbs < 1073741824 ^ 12) := Lib.hid (abs_lt (by rw [← hzr]; exact hDr))
  have Lr : Hid (Len zr) := Lib.hid (len_lt Dr.out (by omega))
  have HN : Hid (0 ≤ zr ∧ zr < zb.natAbs) := by
    have e1 := HC0.out
    have e2 : 0 ≤ dval lr_ := dval_nonneg hBr.1.digs
    have e3 : zb.natAbs = (dval lb_).natAbs := by rw [← hzb]; unfold sgn; split <;> omega
    have e4 : zr = dval lr_ := by rw [← hzr, HNR.out]; rfl
    exact Lib.hid ⟨by omega, by omega⟩
  have HB0 : Hid (zb ≠ 0) := Lib.hid (fun e => H0.out (Vb.out.len0.2 e))
  clear hBa hDa hza hBb hDb hzb hBq hDq hzq hBr hDr hzr
  go_upto_region 6 with fail
  have hl := Ext.alloc x24 (.cells #[.bool false] 49)
  have hx := hx.trans hl
  have Ka := Lib.hid (Ka.out.ext hl)
  have Kb := Lib.hid (Kb.out.ext hl)
  have Kq := Lib.hid (Kq.out.ext hl)
  have Kr := Lib.hid (Kr.out.ext hl)
  have Va := Lib.hid (Va.out.ext hl)
  have Vb := Lib.hid (Vb.out.ext hl)
  have Vq := Lib.hid (Vq.out.ext hl)
  have Vr := Lib.hid (Vr.out.ext hl)
  have KC := Lib.hid (Blk.new0 x24 #[.bool false] 49)
  clear hl
  generalize x24.alloc (.cells #[.bool false] 49) = x25 at *
  generalize x24.heap.size = pc at *
  have cb0 := Kb.out.cell (i := 0) (v := .bool nb) rfl
  have cb1 := Kb.out.cell (i := 1) (v := .slice ab qb cb) rfl
  go_upto_region 8 with fail
  have hl := Ext.alloc x25 (.cells #[.bool false, .slice ab qb cb] 24)
  have hx := hx.trans hl
  have Ka := Lib.hid (Ka.out.ext hl)
  have Kb := Lib.hid (Kb.out.ext hl)
  have Kq := Lib.hid (Kq.out.ext hl)
  have Kr := Lib.hid (Kr.out.ext hl)
  have Va := Lib.hid (Va.out.ext hl)
  have Vb := Lib.hid (Vb.out.ext hl)
  have Vq := Lib.hid (Vq.out.ext hl)
  have Vr := Lib.hid (Vr.out.ext hl)
  have KC := Lib.hid (KC.out.ext hl)
  have Ks := Lib.hid (Blk.new0 x25 #[.bool false, .slice ab qb cb] 24)
  clear hl cb0 cb1
  generalize x25.alloc (.cells #[.bool false, .slice ab qb cb] 24) = x26 at *
  generalize x25.heap.size = ps at *
  have Vs := Lib.hid Vb.out.abs
  have Ds : Hid ((zb.natAbs : Int).natAbs < 1073741824 ^ 12) := Lib.hid (by rw [Int.natAbs_natCast]; exact Db.out)
  have Ls := Lib.hid (len_lt Ds.out (by omega))
  have ca0 := Ka.out.cell (i := 0) (v := .bool na) rfl
  have ca1 := Ka.out.cell (i := 1) (v := .slice aa qa ca) rfl
  have cb0 := Kb.out.cell (i := 0) (v := .bool nb) rfl
  have cb1 := Kb.out.cell (i := 1) (v := .slice ab qb cb) rfl
  go_wp2_with fail
  with_reducible refine (div_any Va.out Vb.out La.out Lb.out HB0.out).mono ?_
  rintro e x27 ⟨v, u, rfl, hv, hu, hy⟩
  have hx := hx.trans hy
  have Ka := Lib.hid (Ka.out.ext hy)
  have Kb := Lib.hid (Kb.out.ext hy)
  have Kq := Lib.hid (Kq.out.ext hy)
  have Kr := Lib.hid (Kr.out.ext hy)
  have Va := Lib.hid (Va.out.ext hy)
  have Vb := Lib.hid (Vb.out.ext hy)
  have Vq := Lib.hid (Vq.out.ext hy)
  have Vr := Lib.hid (Vr.out.ext hy)
  have KC := Lib.hid (KC.out.ext hy)
  have Ks := Lib.hid (Ks.out.ext hy)
  have Vs := Lib.hid (Vs.out.ext hy)
  clear hy
  obtain ⟨nx, ax, qx, cx, rfl⟩ := hv.form
  obtain ⟨ny, ay, qy, cy, rfl⟩ := hu.form
  have hny : ny = false := hu.pos (Int.emod_nonneg _ HB0.out)
  subst hny
  have Vx := Lib.hid hv
  have Vy := Lib.hid hu
  clear hv hu
  clear ca0 ca1 cb0 cb1
  go_upto_region 9 with fail
  have hl : Ext x27 ((x27.alloc (.cells #[.bool nx, .slice ax qx cx] 24)).alloc (.cells #[.bool false, .slice ay qy cy] 24)) := (by repeat (first | with_reducible exact Ext.refl _ | with_reducible assumption | with_reducible refine Ext.drewN ?_ _ | with_reducible refine Ext.drew ?_ | with_reducible refine Ext.alloc' ?_ _ | with_reducible refine Ext.set ?_ (by dsimp only; omega) _))
  have hx := hx.trans hl
  have Ka := Lib.hid (Ka.out.ext hl)
  have Kb := Lib.hid (Kb.out.ext hl)
  have Kq := Lib.hid (Kq.out.ext hl)
  have Kr := Lib.hid (Kr.out.ext hl)
  have Va := Lib.hid (Va.out.ext hl)
  have Vb := Lib.hid (Vb.out.ext hl)
  have Vq := Lib.hid (Vq.out.ext hl)
  have Vr := Lib.hid (Vr.out.ext hl)
  have KC := Lib.hid (KC.out.ext hl)
  have Ks := Lib.hid (Ks.out.ext hl)
  have Vs := Lib.hid (Vs.out.ext hl)
  have Vx := Lib.hid (Vx.out.ext hl)
  have Vy := Lib.hid (Vy.out.ext hl)
  have Kx := Lib.hid ((Blk.new0 x27 #[.bool nx, .slice ax qx cx] 24).alloc (.cells #[.bool false, .slice ay qy cy] 24))
  have Ky := Lib.hid (Blk.new1 x27 (.cells #[.bool nx, .slice ax qx cx] 24) #[.bool false, .slice ay qy cy] 24)
  clear hl
  generalize (x27.alloc (.cells #[.bool nx, .slice ax qx cx] 24)).alloc (.cells #[.bool false, .slice ay qy cy] 24) = x28 at *
  generalize x27.heap.size = px at *
  have Dx := Lib.hid (div_lt (y := zb) Da.out)
  have Dy := Lib.hid (mod_lt (x := za) Db.out HB0.out)
  have Lx := Lib.hid (len_lt Dx.out (by omega))
  have Ly := Lib.hid (len_lt Dy.out (by omega))
  have Dm := Lib.hid (mul_lt Dx.out Db.out)
  have Lm := Lib.hid (len_lt Dm.out (by omega))
  have Dn := Lib.hid (add_lt Dm.out (lt_mono Dy.out (show 12 ≤ 12 + 12 by omega)))
  have Ln := Lib.hid (len_lt Dn.out (by omega))
  have HE := Lib.hid (show za / zb * zb + za % zb = za from by rw [Int.mul_comm]; exact Int.mul_ediv_add_emod za zb)
  have HC := Lib.hid (cmpI_lt (show za % zb < (zb.natAbs : Int) from Int.emod_lt za HB0.out))
  go_cut [72] (fun s72 wx => s72 = .bool false ∧ Ext x28 wx)
  case first => as_aux_lemma =>
    have dc0 : x28.cell? ⟨w.heap.size, 0, none⟩ = some (.bool na) := Ka.out.cell (i := 0) rfl
    have dc1 : x28.cell? ⟨w.heap.size, 1, none⟩ = some (.slice aa qa ca) := Ka.out.cell (i := 1) rfl
    have dc2 : x28.cell? ⟨w.heap.size + 1, 0, none⟩ = some (.bool nb) := Kb.out.cell (i := 0) rfl
    have dc3 : x28.cell? ⟨w.heap.size + 1, 1, none⟩ = some (.slice ab qb cb) := Kb.out.cell (i := 1) rfl
    have dc4 : x28.cell? ⟨px, 0, none⟩ = some (.bool nx) := Kx.out.cell (i := 0) rfl
    have dc5 : x28.cell? ⟨px, 1, none⟩ = some (.slice ax qx cx) := Kx.out.cell (i := 1) rfl
    have dc6 : x28.cell? ⟨px + 1, 0, none⟩ = some (.bool false) := Ky.out.cell (i := 0) rfl
    have dc7 : x28.cell? ⟨px + 1, 1, none⟩ = some (.slice ay qy cy) := Ky.out.cell (i := 1) rfl
    have dc8 : x28.cell? ⟨ps, 0, none⟩ = some (.bool false) := Ks.out.cell (i := 0) rfl
    have dc9 : x28.cell? ⟨ps, 1, none⟩ = some (.slice ab qb cb) := Ks.out.cell (i := 1) rfl
    have hE : Ext x28 x28.drew := (Ext.refl _).drew
    refine wp_region_held_drew (S := (fun w' => w'.cell? ⟨w.heap.size, 0, none⟩ = some (.bool na) ∧ w'.cell? ⟨w.heap.size, 1, none⟩ = some (.slice aa qa ca) ∧ w'.cell? ⟨w.heap.size + 1, 0, none⟩ = some (.bool nb) ∧ w'.cell? ⟨w.heap.size + 1, 1, none⟩ = some (.slice ab qb cb) ∧ w'.cell? ⟨px, 0, none⟩ = some (.bool nx) ∧ w'.cell? ⟨px, 1, none⟩ = some (.slice ax qx cx) ∧ w'.cell? ⟨px + 1, 0, none⟩ = some (.bool false) ∧ w'.cell? ⟨px + 1, 1, none⟩ = some (.slice ay qy cy) ∧ w'.cell? ⟨ps, 0, none⟩ = some (.bool false) ∧ w'.cell? ⟨ps, 1, none⟩ = some (.slice ab qb cb))) (by kernel_rfl) ?_ (fun hHeld => ?_)
    · (first | exact ⟨cell_ext hy hHeld.1, cell_ext hy hHeld.2.1, cell_ext hy hHeld.2.2.1, cell_ext hy hHeld.2.2.2.1, cell_ext hy hHeld.2.2.2.2.1, cell_ext hy hHeld.2.2.2.2.2.1, cell_ext hy hHeld.2.2.2.2.2.2.1, cell_ext hy hHeld.2.2.2.2.2.2.2.1, cell_ext hy hHeld.2.2.2.2.2.2.2.2.1, cell_ext hy hHeld.2.2.2.2.2.2.2.2.2⟩ | exact ⟨dc0, dc1, dc2, dc3, dc4, dc5, dc6, dc7, dc8, dc9⟩ | exact hHeld)
    refine wpAnyH_take (i := 0) (oi := _) (v := ?_) rfl (by kernel_rfl) (by kernel_rfl) (by kernel_rfl) (fun _ _ _ h => h) (Or.inl ⟨by rfl, ?_⟩) (by assumption) ?_
    rotate_left
    · (intro w hSw; (try dsimp only at hSw); (try go_simp); (try with_reducible rfl))
    (try simp only [Act.put, List.getElem_toArray, List.getElem_cons_succ, List.getElem_cons_zero, List.setIfInBounds_toArray, List.set_cons_zero, List.set_cons_succ])
    refine wpAnyH_take (i := 1) (oi := _) (v := ?_) rfl (by kernel_rfl) (by kernel_rfl) (by kernel_rfl) (fun _ _ _ h => h) (Or.inl ⟨by rfl, ?_⟩) (by assumption) ?_
    rotate_left
    · (intro w hSw; (try dsimp only at hSw); (try go_simp); (try with_reducible rfl))
    (try simp only [Act.put, List.getElem_toArray, List.getElem_cons_succ, List.getElem_cons_zero, List.setIfInBounds_toArray, List.set_cons_zero, List.set_cons_succ])
    refine wpAnyH_take (i := 2) (oi := _) (v := ?_) rfl (by kernel_rfl) (by kernel_rfl) (by kernel_rfl) (fun _ _ _ h => h) (Or.inl ⟨by rfl, ?_⟩) (by assumption) ?_
    rotate_left
    · (intro w hSw; (try dsimp only at hSw); (try go_simp); (try with_reducible rfl))
    (try simp only [Act.put, List.getElem_toArray, List.getElem_cons_succ, List.getElem_cons_zero, List.setIfInBounds_toArray, List.set_cons_zero, List.set_cons_succ])
    refine wpAnyH_take (i := 3) (oi := _) (v := ?_) rfl (by kernel_rfl) (by kernel_rfl) (by kernel_rfl) (fun _ _ _ h => h) (Or.inl ⟨by rfl, ?_⟩) (by assumption) ?_
    rotate_left
    · (intro w hSw; (try dsimp only at hSw); (try go_simp); (try with_reducible rfl))
    (try simp only [Act.put, List.getElem_toArray, List.getElem_cons_succ, List.getElem_cons_zero, List.setIfInBounds_toArray, List.set_cons_zero, List.set_cons_succ])
    refine wpAnyH_ready (rs := [4]) (by kernel_rfl) (by simp) ?_
    refine AllReadyH.cons (o := _) rfl (fun K hK => ?_) ?_
    · go_simp
      (with_reducible refine (rcheck_val (Vx.out.ext hE) Lx.out).mono ?_); rintro e y1 ⟨rfl, hy⟩; have hE := hE.trans hy
      refine hK.out _ _ ?_ (fun hHeld2 => ?_)
      · (first | exact ⟨cell_ext hy hHeld.1, cell_ext hy hHeld.2.1, cell_ext hy hHeld.2.2.1, cell_ext hy hHeld.2.2.2.1, cell_ext hy hHeld.2.2.2.2.1, cell_ext hy hHeld.2.2.2.2.2.1, cell_ext hy hHeld.2.2.2.2.2.2.1, cell_ext hy hHeld.2.2.2.2.2.2.2.1, cell_ext hy hHeld.2.2.2.2.2.2.2.2.1, cell_ext hy hHeld.2.2.2.2.2.2.2.2.2⟩ | exact ⟨dc0, dc1, dc2, dc3, dc4, dc5, dc6, dc7, dc8, dc9⟩ | exact hHeld)
      clear hK K hHeld
      have hHeld := hHeld2
      clear hHeld2
      (try simp only [Act.put, List.getElem_toArray, List.getElem_cons_succ, List.getElem_cons_zero, List.setIfInBounds_toArray, List.set_cons_zero, List.set_cons_succ])
      refine wpAnyH_take (i := 5) (oi := _) (v := ?_) rfl (by kernel_rfl) (by kernel_rfl) (by kernel_rfl) (fun _ _ _ h => h) (Or.inl ⟨by rfl, ?_⟩) (by assumption) ?_
      rotate_left
      · (intro w hSw; (try dsimp only at hSw); (try go_simp); (try with_reducible rfl))
      (try simp only [Act.put, List.getElem_toArray, List.getElem_cons_succ, List.getElem_cons_zero, List.setIfInBounds_toArray, List.set_cons_zero, List.set_cons_succ])
      refine wpAnyH_take (i := 6) (oi := _) (v := ?_) rfl (by kernel_rfl) (by kernel_rfl) (by kernel_rfl) (fun _ _ _ h => h) (Or.inl ⟨by rfl, ?_⟩) (by assumption) ?_
      rotate_left
      · (intro w hSw; (try dsimp only at hSw); (try go_simp); (try with_reducible rfl))
      (try simp only [Act.put, List.getElem_toArray, List.getElem_cons_succ, List.getElem_cons_zero, List.setIfInBounds_toArray, List.set_cons_zero, List.set_cons_succ])
      refine wpAnyH_take (i := 7) (oi := _) (v := ?_) rfl (by kernel_rfl) (by kernel_rfl) (by kernel_rfl) (fun _ _ _ h => h) (Or.inl ⟨by rfl, ?_⟩) (by assumption) ?_
      rotate_left
      · (intro w hSw; (try dsimp only at hSw); (try go_simp); (try with_reducible rfl))
      (try simp only [Act.put, List.getElem_toArray, List.getElem_cons_succ, List.getElem_cons_zero, List.setIfInBounds_toArray, List.set_cons_zero, List.set_cons_succ])
      refine wpAnyH_take (i := 8) (oi := _) (v := ?_) rfl (by kernel_rfl) (by kernel_rfl) (by kernel_rfl) (fun _ _ _ h => h) (Or.inl ⟨by rfl, ?_⟩) (by assumption) ?_
      rotate_left
      · (intro w hSw; (try dsimp only at hSw); (try go_simp); (try with_reducible rfl))
      (try simp only [Act.put, List.getElem_toArray, List.getElem_cons_succ, List.getElem_cons_zero, List.setIfInBounds_toArray, List.set_cons_zero, List.set_cons_succ])
      refine wpAnyH_ready (rs := [9]) (by kernel_rfl) (by simp) ?_
      refine AllReadyH.cons (o := _) rfl (fun K hK => ?_) ?_
      · go_simp
        (with_reducible refine (rcheck_val (Vy.out.ext hE) Ly.out).mono ?_); rintro e y2 ⟨rfl, hy⟩; have hE := hE.trans hy
        refine hK.out _ _ ?_ (fun hHeld2 => ?_)
        · (first | exact ⟨cell_ext hy hHeld.1, cell_ext hy hHeld.2.1, cell_ext hy hHeld.2.2.1, cell_ext hy hHeld.2.2.2.1, cell_ext hy hHeld.2.2.2.2.1, cell_ext hy hHeld.2.2.2.2.2.1, cell_ext hy hHeld.2.2.2.2.2.2.1, cell_ext hy hHeld.2.2.2.2.2.2.2.1, cell_ext hy hHeld.2.2.2.2.2.2.2.2.1, cell_ext hy hHeld.2.2.2.2.2.2.2.2.2⟩ | exact ⟨dc0, dc1, dc2, dc3, dc4, dc5, dc6, dc7, dc8, dc9⟩ | exact hHeld)
        clear hK K hHeld
        have hHeld := hHeld2
        clear hHeld2
        (try simp only [Act.put, List.getElem_toArray, List.getElem_cons_succ, List.getElem_cons_zero, List.setIfInBounds_toArray, List.set_cons_zero, List.set_cons_succ])
        refine wpAnyH_take (i := 10) (oi := _) (v := ?_) rfl (by kernel_rfl) (by kernel_rfl) (by kernel_rfl) (fun _ _ _ h => h) (Or.inl ⟨by rfl, ?_⟩) (by assumption) ?_
        rotate_left
        · (intro w hSw; (try dsimp only at hSw); (try go_simp); (try with_reducible rfl))
        (try simp only [Act.put, List.getElem_toArray, List.getElem_cons_succ, List.getElem_cons_zero, List.setIfInBounds_toArray, List.set_cons_zero, List.set_cons_succ])
        refine wpAnyH_take (i := 11) (oi := _) (v := ?_) rfl (by kernel_rfl) (by kernel_rfl) (by kernel_rfl) (fun _ _ _ h => h) (Or.inl ⟨by rfl, ?_⟩) (by assumption) ?_
        rotate_left
        · (intro w hSw; (try dsimp only at hSw); (try go_simp); (try with_reducible rfl))
        (try simp only [Act.put, List.getElem_toArray, List.getElem_cons_succ, List.getElem_cons_zero, List.setIfInBounds_toArray, List.set_cons_zero, List.set_cons_succ])
        refine wpAnyH_take (i := 12) (oi := _) (v := ?_) rfl (by kernel_rfl) (by kernel_rfl) (by kernel_rfl) (fun _ _ _ h => h) (Or.inl ⟨by rfl, ?_⟩) (by assumption) ?_
        rotate_left
        · (intro w hSw; (try dsimp only at hSw); (try go_simp); (try with_reducible rfl))
        (try simp only [Act.put, List.getElem_toArray, List.getElem_cons_succ, List.getElem_cons_zero, List.setIfInBounds_toArray, List.set_cons_zero, List.set_cons_succ])
        refine wpAnyH_take (i := 13) (oi := _) (v := ?_) rfl (by kernel_rfl) (by kernel_rfl) (by kernel_rfl) (fun _ _ _ h => h) (Or.inl ⟨by rfl, ?_⟩) (by assumption) ?_
        rotate_left
        · (intro w hSw; (try dsimp only at hSw); (try go_simp); (try with_reducible rfl))
        (try simp only [Act.put, List.getElem_toArray, List.getElem_cons_succ, List.getElem_cons_zero, List.setIfInBounds_toArray, List.set_cons_zero, List.set_cons_succ])
        refine wpAnyH_take (i := 14) (oi := _) (v := ?_) rfl (by kernel_rfl) (by kernel_rfl) (by kernel_rfl) (fun _ _ _ h => h) (Or.inl ⟨by rfl, ?_⟩) (by assumption) ?_
        rotate_left
        · (intro w hSw; (try dsimp only at hSw); (try go_simp); (try with_reducible rfl))
        (try simp only [Act.put, List.getElem_toArray, List.getElem_cons_succ, List.getElem_cons_zero, List.setIfInBounds_toArray, List.set_cons_zero, List.set_cons_succ])
        refine wpAnyH_take (i := 16) (oi := _) (v := ?_) rfl (by kernel_rfl) (by kernel_rfl) (by kernel_rfl) (fun _ _ _ h => h) (Or.inl ⟨by rfl, ?_⟩) (by assumption) ?_
        rotate_left
        · (intro w hSw; (try dsimp only at hSw); (try go_simp); (try with_reducible rfl))
        (try simp only [Act.put, List.getElem_toArray, List.getElem_cons_succ, List.getElem_cons_zero, List.setIfInBounds_toArray, List.set_cons_zero, List.set_cons_succ])
        refine wpAnyH_take (i := 18) (oi := _) (v := ?_) rfl (by kernel_rfl) (by kernel_rfl) (by kernel_rfl) (fun _ _ _ h => h) (Or.inl ⟨by rfl, ?_⟩) (by assumption) ?_
        rotate_left
        · (intro w hSw; (try dsimp only at hSw); (try go_simp); (try with_reducible rfl))
        (try simp only [Act.put, List.getElem_toArray, List.getElem_cons_succ, List.getElem_cons_zero, List.setIfInBounds_toArray, List.set_cons_zero, List.set_cons_succ])
        refine wpAnyH_ready (rs := [15]) (by kernel_rfl) (by simp) ?_
        refine AllReadyH.cons (o := _) rfl (fun K hK => ?_) ?_
        · go_simp
          (with_reducible refine (calc_mul pc _ (KC.out.ext hE) (Vx.out.ext hE) (Vb.out.ext hE) Lx.out Lb.out Lm.out).mono ?_); rintro e y3 ⟨v3, rfl, hv3, hy⟩; have hv3 := hv3.val; have hE := hE.trans hy
          refine hK.out _ _ ?_ (fun hHeld2 => ?_)
          · (first | exact ⟨cell_ext hy hHeld.1, cell_ext hy hHeld.2.1, cell_ext hy hHeld.2.2.1, cell_ext hy hHeld.2.2.2.1, cell_ext hy hHeld.2.2.2.2.1, cell_ext hy hHeld.2.2.2.2.2.1, cell_ext hy hHeld.2.2.2.2.2.2.1, cell_ext hy hHeld.2.2.2.2.2.2.2.1, cell_ext hy hHeld.2.2.2.2.2.2.2.2.1, cell_ext hy hHeld.2.2.2.2.2.2.2.2.2⟩ | exact ⟨dc0, dc1, dc2, dc3, dc4, dc5, dc6, dc7, dc8, dc9⟩ | exact hHeld)
          clear hK K hHeld
          have hHeld := hHeld2
          clear hHeld2
          (try simp only [Act.put, List.getElem_toArray, List.getElem_cons_succ, List.getElem_cons_zero, List.setIfInBounds_toArray, List.set_cons_zero, List.set_cons_succ])
          refine wpAnyH_ready (rs := [17]) (by kernel_rfl) (by simp) ?_
          refine AllReadyH.cons (o := _) rfl (fun K hK => ?_) ?_
          · go_simp
            (with_reducible refine (calc_add pc _ (KC.out.ext hE) hv3 (Vy.out.ext hE) Lm.out Ly.out Ln.out).mono ?_); rintro e y4 ⟨v4, rfl, hv4, hy⟩; have hv4 := hv4.val; have hE := hE.trans hy
            refine hK.out _ _ ?_ (fun hHeld2 => ?_)
            · (first | exact ⟨cell_ext hy hHeld.1, cell_ext hy hHeld.2.1, cell_ext hy hHeld.2.2.1, cell_ext hy hHeld.2.2.2.1, cell_ext hy hHeld.2.2.2.2.1, cell_ext hy hHeld.2.2.2.2.2.1, cell_ext hy hHeld.2.2.2.2.2.2.1, cell_ext hy hHeld.2.2.2.2.2.2.2.1, cell_ext hy hHeld.2.2.2.2.2.2.2.2.1, cell_ext hy hHeld.2.2.2.2.2.2.2.2.2⟩ | exact ⟨dc0, dc1, dc2, dc3, dc4, dc5, dc6, dc7, dc8, dc9⟩ | exact hHeld)
            clear hK K hHeld
            have hHeld := hHeld2
            clear hHeld2
            (try simp only [Act.put, List.getElem_toArray, List.getElem_cons_succ, List.getElem_cons_zero, List.setIfInBounds_toArray, List.set_cons_zero, List.set_cons_succ])
            refine wpAnyH_ready (rs := [19]) (by kernel_rfl) (by simp) ?_
            refine AllReadyH.cons (o := _) rfl (fun K hK => ?_) ?_
            · go_simp
              (with_reducible refine (sameT hv4 (Va.out.ext hE) HE.out).mono ?_); rintro e y5 ⟨rfl, hy⟩; have hE := hE.trans hy
              refine hK.out _ _ ?_ (fun hHeld2 => ?_)
              · (first | exact ⟨cell_ext hy hHeld.1, cell_ext hy hHeld.2.1, cell_ext hy hHeld.2.2.1, cell_ext hy hHeld.2.2.2.1, cell_ext hy hHeld.2.2.2.2.1, cell_ext hy hHeld.2.2.2.2.2.1, cell_ext hy hHeld.2.2.2.2.2.2.1, cell_ext hy hHeld.2.2.2.2.2.2.2.1, cell_ext hy hHeld.2.2.2.2.2.2.2.2.1, cell_ext hy hHeld.2.2.2.2.2.2.2.2.2⟩ | exact ⟨dc0, dc1, dc2, dc3, dc4, dc5, dc6, dc7, dc8, dc9⟩ | exact hHeld)
              clear hK K hHeld
              have hHeld := hHeld2
              clear hHeld2
              (try simp only [Act.put, List.getElem_toArray, List.getElem_cons_succ, List.getElem_cons_zero, List.setIfInBounds_toArray, List.set_cons_zero, List.set_cons_succ])
              refine wpAnyH_take (i := 20) (oi := _) (v := ?_) rfl (by kernel_rfl) (by kernel_rfl) (by kernel_rfl) (fun _ _ _ h => h) (Or.inl ⟨by rfl, ?_⟩) (by assumption) ?_
              rotate_left
              · (intro w hSw; (try dsimp only at hSw); (try go_simp); (try with_reducible rfl))
              (try simp only [Act.put, List.getElem_toArray, List.getElem_cons_succ, List.getElem_cons_zero, List.setIfInBounds_toArray, List.set_cons_zero, List.set_cons_succ])
              refine wpAnyH_take (i := 21) (oi := _) (v := ?_) rfl (by kernel_rfl) (by kernel_rfl) (by kernel_rfl) (fun _ _ _ h => h) (Or.inl ⟨by rfl, ?_⟩) (by assumption) ?_
              rotate_left
              · (intro w hSw; (try dsimp only at hSw); (try go_simp); (try with_reducible rfl))
              (try simp only [Act.put, List.getElem_toArray, List.getElem_cons_succ, List.getElem_cons_zero, List.setIfInBounds_toArray, List.set_cons_zero, List.set_cons_succ])
              refine wpAnyH_take (i := 22) (oi := _) (v := ?_) rfl (by kernel_rfl) (by kernel_rfl) (by kernel_rfl) (fun _ _ _ h => h) (Or.inl ⟨by rfl, ?_⟩) (by assumption) ?_
              rotate_left
              · (intro w hSw; (try dsimp only at hSw); (try go_simp); (try with_reducible rfl))
              (try simp only [Act.put, List.getElem_toArray, List.getElem_cons_succ, List.getElem_cons_zero, List.setIfInBounds_toArray, List.set_cons_zero, List.set_cons_succ])
              refine wpAnyH_take (i := 23) (oi := _) (v := ?_) rfl (by kernel_rfl) (by kernel_rfl) (by kernel_rfl) (fun _ _ _ h => h) (Or.inl ⟨by rfl, ?_⟩) (by assumption) ?_
              rotate_left
              · (intro w hSw; (try dsimp only at hSw); (try go_simp); (try with_reducible rfl))
              (try simp only [Act.put, List.getElem_toArray, List.getElem_cons_succ, List.getElem_cons_zero, List.setIfInBounds_toArray, List.set_cons_zero, List.set_cons_succ])
              refine wpAnyH_take (i := 24) (oi := _) (v := ?_) rfl (by kernel_rfl) (by kernel_rfl) (by kernel_rfl) (fun _ _ _ h => h) (Or.inl ⟨by rfl, ?_⟩) (by assumption) ?_
              rotate_left
              · (intro w hSw; (try dsimp only at hSw); (try go_simp); (try with_reducible rfl))
              (try simp only [Act.put, List.getElem_toArray, List.getElem_cons_succ, List.getElem_cons_zero, List.setIfInBounds_toArray, List.set_cons_zero, List.set_cons_succ])
              refine wpAnyH_take (i := 25) (oi := _) (v := ?_) rfl (by kernel_rfl) (by kernel_rfl) (by kernel_rfl) (fun _ _ _ h => h) (Or.inl ⟨by rfl, ?_⟩) (by assumption) ?_
              rotate_left
              · (intro w hSw; (try dsimp only at hSw); (try go_simp); (try with_reducible rfl))
              (try simp only [Act.put, List.getElem_toArray, List.getElem_cons_succ, List.getElem_cons_zero, List.setIfInBounds_toArray, List.set_cons_zero, List.set_cons_succ])
              refine wpAnyH_take (i := 26) (oi := _) (v := ?_) rfl (by kernel_rfl) (by kernel_rfl) (by kernel_rfl) (fun _ _ _ h => h) (Or.inl ⟨by rfl, ?_⟩) (by assumption) ?_
              rotate_left
              · (intro w hSw; (try dsimp only at hSw); (try go_simp); (try with_reducible rfl))
              (try simp only [Act.put, List.getElem_toArray, List.getElem_cons_succ, List.getElem_cons_zero, List.setIfInBounds_toArray, List.set_cons_zero, List.set_cons_succ])
              refine wpAnyH_take (i := 27) (oi := _) (v := ?_) rfl (by kernel_rfl) (by kernel_rfl) (by kernel_rfl) (fun _ _ _ h => h) (Or.inl ⟨by rfl, ?_⟩) (by assumption) ?_
              rotate_left
              · (intro w hSw; (try dsimp only at hSw); (try go_simp); (try with_reducible rfl))
              (try simp only [Act.put, List.getElem_toArray, List.getElem_cons_succ, List.getElem_cons_zero, List.setIfInBounds_toArray, List.set_cons_zero, List.set_cons_succ])
              refine wpAnyH_take (i := 28) (oi := _) (v := ?_) rfl (by kernel_rfl) (by kernel_rfl) (by kernel_rfl) (fun _ _ _ h => h) (Or.inl ⟨by rfl, ?_⟩) (by assumption) ?_
              rotate_left
              · (intro w hSw; (try dsimp only at hSw); (try go_simp); (try with_reducible rfl))
              (try simp only [Act.put, List.getElem_toArray, List.getElem_cons_succ, List.getElem_cons_zero, List.setIfInBounds_toArray, List.set_cons_zero, List.set_cons_succ])
              refine wpAnyH_ready (rs := [29]) (by kernel_rfl) (by simp) ?_
              refine AllReadyH.cons (o := _) rfl (fun K hK => ?_) ?_
              · go_simp
                (with_reducible refine (calc_cmp pc _ (KC.out.ext hE) (Vy.out.ext hE) (Vs.out.ext hE) Ly.out Ls.out).mono ?_); rintro e y6 ⟨rfl, hy⟩; rw [HC.out]; have hE := hE.trans hy
                refine hK.out _ _ ?_ (fun hHeld2 => ?_)
                · (first | exact ⟨cell_ext hy hHeld.1, cell_ext hy hHeld.2.1, cell_ext hy hHeld.2.2.1, cell_ext hy hHeld.2.2.2.1, cell_ext hy hHeld.2.2.2.2.1, cell_ext hy hHeld.2.2.2.2.2.1, cell_ext hy hHeld.2.2.2.2.2.2.1, cell_ext hy hHeld.2.2.2.2.2.2.2.1, cell_ext hy hHeld.2.2.2.2.2.2.2.2.1, cell_ext hy hHeld.2.2.2.2.2.2.2.2.2⟩ | exact ⟨dc0, dc1, dc2, dc3, dc4, dc5, dc6, dc7, dc8, dc9⟩ | exact hHeld)
                clear hK K hHeld
                have hHeld := hHeld2
                clear hHeld2
                (try simp only [Act.put, List.getElem_toArray, List.getElem_cons_succ, List.getElem_cons_zero, List.setIfInBounds_toArray, List.set_cons_zero, List.set_cons_succ])
                refine wpAnyH_take (i := 30) (oi := _) (v := ?_) rfl (by kernel_rfl) (by kernel_rfl) (by kernel_rfl) (fun _ _ _ h => h) (Or.inl ⟨by rfl, ?_⟩) (by assumption) ?_
                rotate_left
                · (intro w hSw; (try dsimp only at hSw); (try go_simp); (try with_reducible rfl))
                (try simp only [Act.put, List.getElem_toArray, List.getElem_cons_succ, List.getElem_cons_zero, List.setIfInBounds_toArray, List.set_cons_zero, List.set_cons_succ])
                refine wpAnyH_take (i := 31) (oi := _) (v := ?_) rfl (by kernel_rfl) (by kernel_rfl) (by kernel_rfl) (fun _ _ _ h => h) (Or.inl ⟨by rfl, ?_⟩) (by assumption) ?_
                rotate_left
                · (intro w hSw; (try dsimp only at hSw); (try go_simp); (try with_reducible rfl))
                (try simp only [Act.put, List.getElem_toArray, List.getElem_cons_succ, List.getElem_cons_zero, List.setIfInBounds_toArray, List.set_cons_zero, List.set_cons_succ])
                refine wpAnyH_done (by kernel_rfl) ?_ _
                (go_wp2_with fail; go_meet; exact ⟨rfl, hE⟩)
              exact AllReadyH.nil
            exact AllReadyH.nil
          exact AllReadyH.nil
        exact AllReadyH.nil
      exact AllReadyH.nil
    exact AllReadyH.nil
  case rest =>
  obtain ⟨rfl, hy⟩ := hcut
  have hx := hx.trans hy
  have Ka := Lib.hid (Ka.out.ext hy)
  have Kb := Lib.hid (Kb.out.ext hy)
  have Kq := Lib.hid (Kq.out.ext hy)
  have Kr := Lib.hid (Kr.out.ext hy)
  have Va := Lib.hid (Va.out.ext hy)
  have Vb := Lib.hid (Vb.out.ext hy)
  have Vq := Lib.hid (Vq.out.ext hy)
  have Vr := Lib.hid (Vr.out.ext hy)
  have KC := Lib.hid (KC.out.ext hy)
  have Ks := Lib.hid (Ks.out.ext hy)
  have Vs := Lib.hid (Vs.out.ext hy)
  have Vx := Lib.hid (Vx.out.ext hy)
  have Vy := Lib.hid (Vy.out.ext hy)
  have Kx := Lib.hid (Kx.out.ext hy)
  have Ky := Lib.hid (Ky.out.ext hy)
  clear hy HE HC
  have hnr := HNR.out
  subst hnr
  have kc := KC.out.cell (i := 0) (v := .bool false) rfl
  have cr0 := Kr.out.cell (i := 0) (v := .bool false) rfl
  have cr1 := Kr.out.cell (i := 1) (v := .slice ar qr cr) rfl
  have cs0 := Ks.out.cell (i := 0) (v := .bool false) rfl
  have cs1 := Ks.out.cell (i := 1) (v := .slice ab qb cb) rfl
  obtain ⟨p, hp⟩ : ∃ p, cmpI zr (zb.natAbs : Int) = p := ⟨_, rfl⟩
  have t3 : decide (0 ≤ p) = false := by rw [← hp, cmpI_lt HN.out.2]; rfl
  go_wp2_with fail
  with_reducible refine (calc_cmp pc _ KC.out Vr.out Vs.out Lr.out Ls.out).mono ?_
  rintro e x29 ⟨rfl, hy⟩
  rw [hp]
  clear hp
  have hx := hx.trans hy
  have Ka := Lib.hid (Ka.out.ext hy)
  have Kb := Lib.hid (Kb.out.ext hy)
  have Kq := Lib.hid (Kq.out.ext hy)
  have Kr := Lib.hid (Kr.out.ext hy)
  have Va := Lib.hid (Va.out.ext hy)
  have Vb := Lib.hid (Vb.out.ext hy)
  have Vq := Lib.hid (Vq.out.ext hy)
  have Vr := Lib.hid (Vr.out.ext hy)
  have KC := Lib.hid (KC.out.ext hy)
  have Ks := Lib.hid (Ks.out.ext hy)
  have Vs := Lib.hid (Vs.out.ext hy)
  have Vx := Lib.hid (Vx.out.ext hy)
  have Vy := Lib.hid (Vy.out.ext hy)
  have Kx := Lib.hid (Kx.out.ext hy)
  have Ky := Lib.hid (Ky.out.ext hy)
  clear hy kc cr0 cr1 cs0 cs1
  go_upto_region 13 with fail
  have Dk := Lib.hid (mul_lt Dq.out Db.out)
  have Lk := Lib.hid (len_lt Dk.out (by omega))
  have Dj := Lib.hid (add_lt Dk.out (lt_mono Dr.out (show 12 ≤ 12 + 12 by omega)))
  have Lj := Lib.hid (len_lt Dj.out (by omega))
  have HU := Lib.hid (quo_unique (q := zq) HB0.out HN.out.1 HN.out.2)
  go_cut [14, 15, 16] (fun s14 s15 s16 wx => ∃ (pS pP : Nat) (nS : Bool) (aS : Option Addr) (qS cS : Nat) (nP : Bool) (aP : Option Addr) (qP cP : Nat), s14 = .pointer (some ⟨pS, 0, none⟩) ∧ s15 = .pointer (some ⟨pP, 0, none⟩) ∧ s16 = .int .i64 0 ∧ Blk wx pS #[.bool nS, .slice aS qS cS] 24 ∧ Blk wx pP #[.bool nP, .slice aP qP cP] 24 ∧ BigV wx (.agg #[.bool nS, .slice aS qS cS]) zq ∧ BigV wx (.agg #[.bool nP, .slice aP qP cP]) zr ∧ Ext x29 wx)
  case first => as_aux_lemma =>
    have dc0 : x29.cell? ⟨w.heap.size + 1, 0, none⟩ = some (.bool nb) := Kb.out.cell (i := 0) rfl
    have dc1 : x29.cell? ⟨w.heap.size + 1, 1, none⟩ = some (.slice ab qb cb) := Kb.out.cell (i := 1) rfl
    have dc2 : x29.cell? ⟨w.heap.size + 2, 0, none⟩ = some (.bool nq) := Kq.out.cell (i := 0) rfl
    have dc3 : x29.cell? ⟨w.heap.size + 2, 1, none⟩ = some (.slice aq qq cq) := Kq.out.cell (i := 1) rfl
    have dc4 : x29.cell? ⟨w.heap.size + 3, 0, none⟩ = some (.bool false) := Kr.out.cell (i := 0) rfl
    have dc5 : x29.cell? ⟨w.heap.size + 3, 1, none⟩ = some (.slice ar qr cr) := Kr.out.cell (i := 1) rfl
    have hE : Ext x29 x29.drew := (Ext.refl _).drew
    refine wp_region_held_drew (S := (fun w' => w'.cell? ⟨w.heap.size + 1, 0, none⟩ = some (.bool nb) ∧ w'.cell? ⟨w.heap.size + 1, 1, none⟩ = some (.slice ab qb cb) ∧ w'.cell? ⟨w.heap.size + 2, 0, none⟩ = some (.bool nq) ∧ w'.cell? ⟨w.heap.size + 2, 1, none⟩ = some (.slice aq qq cq) ∧ w'.cell? ⟨w.heap.size + 3, 0, none⟩ = some (.bool false) ∧ w'.cell? ⟨w.heap.size + 3, 1, none⟩ = some (.slice ar qr cr))) (by kernel_rfl) ?_ (fun hHeld => ?_)
    · exact ⟨cell_ext hE dc0, cell_ext hE dc1, cell_ext hE dc2, cell_ext hE dc3, cell_ext hE dc4, cell_ext hE dc5⟩
    generalize World.drew x29 = y0 at *
    refine wpAnyH_take (i := 0) (oi := _) (v := ?_) rfl (by kernel_rfl) (by kernel_rfl) (by kernel_rfl) (fun _ _ _ h => h) (Or.inl ⟨by rfl, ?_⟩) (by assumption) ?_
    rotate_left
    · (intro w hSw; (try dsimp only at hSw); (try go_simp); (try with_reducible rfl))
    (try simp only [Act.put, List.getElem_toArray, List.getElem_cons_succ, List.getElem_cons_zero, List.setIfInBounds_toArray, List.set_cons_zero, List.set_cons_succ])
    refine wpAnyH_take (i := 1) (oi := _) (v := ?_) rfl (by kernel_rfl) (by kernel_rfl) (by kernel_rfl) (fun _ _ _ h => h) (Or.inl ⟨by rfl, ?_⟩) (by assumption) ?_
    rotate_left
    · (intro w hSw; (try dsimp only at hSw); (try go_simp); (try with_reducible rfl))
    (try simp only [Act.put, List.getElem_toArray, List.getElem_cons_succ, List.getElem_cons_zero, List.setIfInBounds_toArray, List.set_cons_zero, List.set_cons_succ])
    refine wpAnyH_take (i := 3) (oi := _) (v := ?_) rfl (by kernel_rfl) (by kernel_rfl) (by kernel_rfl) (fun _ _ _ h => h) (Or.inl ⟨by rfl, ?_⟩) (by assumption) ?_
    rotate_left
    · (intro w hSw; (try dsimp only at hSw); (try go_simp); (try with_reducible rfl))
    (try simp only [Act.put, List.getElem_toArray, List.getElem_cons_succ, List.getElem_cons_zero, List.setIfInBounds_toArray, List.set_cons_zero, List.set_cons_succ])
    refine wpAnyH_take (i := 5) (oi := _) (v := ?_) rfl (by kernel_rfl) (by kernel_rfl) (by kernel_rfl) (fun _ _ _ h => h) (Or.inl ⟨by rfl, ?_⟩) (by assumption) ?_
    rotate_left
    · (intro w hSw; (try dsimp only at hSw); (try go_simp); (try with_reducible rfl))
    (try simp only [Act.put, List.getElem_toArray, List.getElem_cons_succ, List.getElem_cons_zero, List.setIfInBounds_toArray, List.set_cons_zero, List.set_cons_succ])
    refine wpAnyH_ready (rs := [2, 11, 12]) (by kernel_rfl) (by simp) ?_
    refine AllReadyH.cons (o := _) rfl (fun K hK => ?_) ?_
    · go_simp
      (with_reducible refine (calc_mul pc _ (KC.out.ext hE) (Vq.out.ext hE) (Vb.out.ext hE) Lq.out Lb.out Lk.out).mono ?_); rintro e y1 ⟨vm, rfl, hvm, hy⟩; have hE := hE.trans hy; have hvm := hvm.val
      refine hK.out _ _ ?_ (fun hHeld2 => ?_)
      · exact ⟨cell_ext hE dc0, cell_ext hE dc1, cell_ext hE dc2, cell_ext hE dc3, cell_ext hE dc4, cell_ext hE dc5⟩
      clear hK K hHeld
      have hHeld := hHeld2
      clear hHeld2
      (try simp only [Act.put, List.getElem_toArray, List.getElem_cons_succ, List.getElem_cons_zero, List.setIfInBounds_toArray, List.set_cons_zero, List.set_cons_succ])
      refine wpAnyH_ready (rs := [4, 11, 12]) (by kernel_rfl) (by simp) ?_
      refine AllReadyH.cons (o := _) rfl (fun K hK => ?_) ?_
      · go_simp
        (with_reducible refine (calc_add pc _ (KC.out.ext hE) hvm (Vr.out.ext hE) Lk.out Lr.out Lj.out).mono ?_); rintro e y2 ⟨vn, rfl, hvn, hy⟩; have hE := hE.trans hy; have hvm := hvm.ext hy; have hvn := hvn.val
        refine hK.out _ _ ?_ (fun hHeld2 => ?_)
        · exact ⟨cell_ext hE dc0, cell_ext hE dc1, cell_ext hE dc2, cell_ext hE dc3, cell_ext hE dc4, cell_ext hE dc5⟩
        clear hK K hHeld
        have hHeld := hHeld2
        clear hHeld2
        (try simp only [Act.put, List.getElem_toArray, List.getElem_cons_succ, List.getElem_cons_zero, List.setIfInBounds_toArray, List.set_cons_zero, List.set_cons_succ])
        refine wpAnyH_ready (rs := [6, 11, 12]) (by kernel_rfl) (by simp) ?_
        refine AllReadyH.cons (o := _) rfl (fun K hK => ?_) ?_
        · go_simp
          (with_reducible refine (div_any hvn (Vb.out.ext hE) Lj.out Lb.out HB0.out).mono ?_); rintro e y3 ⟨vS, vP, rfl, hvS, hvP, hy⟩; have hE := hE.trans hy; have hvm := hvm.ext hy; have hvn := hvn.ext hy; rw [HU.out.1] at hvS; rw [HU.out.2] at hvP; obtain ⟨nS, aS, qS, cS, rfl⟩ := hvS.form; obtain ⟨nP, aP, qP, cP, rfl⟩ := hvP.form
          refine hK.out _ _ ?_ (fun hHeld2 => ?_)
          · exact ⟨cell_ext hE dc0, cell_ext hE dc1, cell_ext hE dc2, cell_ext hE dc3, cell_ext hE dc4, cell_ext hE dc5⟩
          clear hK K hHeld
          have hHeld := hHeld2
          clear hHeld2
          (try simp only [Act.put, List.getElem_toArray, List.getElem_cons_succ, List.getElem_cons_zero, List.setIfInBounds_toArray, List.set_cons_zero, List.set_cons_succ])
          refine wpAnyH_take (i := 7) (oi := _) (v := ?_) rfl (by kernel_rfl) (by kernel_rfl) (by kernel_rfl) (fun _ _ _ h => h) (Or.inl ⟨by rfl, ?_⟩) (by assumption) ?_
          rotate_left
          · (intro w hSw; (try dsimp only at hSw); (try go_simp); (try with_reducible rfl))
          (try simp only [Act.put, List.getElem_toArray, List.getElem_cons_succ, List.getElem_cons_zero, List.setIfInBounds_toArray, List.set_cons_zero, List.set_cons_succ])
          refine wpAnyH_take (i := 8) (oi := _) (v := ?_) rfl (by kernel_rfl) (by kernel_rfl) (by kernel_rfl) (fun _ _ _ h => h) (Or.inl ⟨by rfl, ?_⟩) (by assumption) ?_
          rotate_left
          · (intro w hSw; (try dsimp only at hSw); (try go_simp); (try with_reducible rfl))
          (try simp only [Act.put, List.getElem_toArray, List.getElem_cons_succ, List.getElem_cons_zero, List.setIfInBounds_toArray, List.set_cons_zero, List.set_cons_succ])
          refine wpAnyH_take (i := 9) (oi := _) (v := ?_) rfl (by kernel_rfl) (by kernel_rfl) (by kernel_rfl) (fun _ _ _ h => h) (Or.inl ⟨by rfl, ?_⟩) (by assumption) ?_
          rotate_left
          · (intro w hSw; (try dsimp only at hSw); (try go_simp); (try with_reducible rfl))
          (try simp only [Act.put, List.getElem_toArray, List.getElem_cons_succ, List.getElem_cons_zero, List.setIfInBounds_toArray, List.set_cons_zero, List.set_cons_succ])
          refine wpAnyH_take (i := 10) (oi := _) (v := ?_) rfl (by kernel_rfl) (by kernel_rfl) (by kernel_rfl) (fun _ _ _ h => h) (Or.inl ⟨by rfl, ?_⟩) (by assumption) ?_
          rotate_left
          · (intro w hSw; (try dsimp only at hSw); (try go_simp); (try with_reducible rfl))
          (try simp only [Act.put, List.getElem_toArray, List.getElem_cons_succ, List.getElem_cons_zero, List.setIfInBounds_toArray, List.set_cons_zero, List.set_cons_succ])
          refine wpAnyH_ready (rs := [11, 12]) (by kernel_rfl) (by simp) ?_
          refine AllReadyH.cons (o := _) rfl (fun K hK => ?_) ?_
          · go_simp
            have hy : Ext (y3) ((y3).alloc (.cells #[.bool false, .slice none 0 0] 24)) := Ext.alloc _ _; have hqS : x29.heap.size ≤ y3.heap.size := hE.size; have hE := hE.trans hy; have hvm := hvm.ext hy; have hvn := hvn.ext hy; have hvS := hvS.ext hy; have hvP := hvP.ext hy; have hBS : Blk ((y3).alloc (.cells #[.bool false, .slice none 0 0] 24)) y3.heap.size #[.bool false, .slice none 0 0] 24 := Blk.new0 _ _ _; generalize (y3).alloc (.cells #[.bool false, .slice none 0 0] 24) = y4 at *; generalize y3.heap.size = pS at *
            refine hK.out _ _ ?_ (fun hHeld2 => ?_)
            · exact ⟨cell_ext hE dc0, cell_ext hE dc1, cell_ext hE dc2, cell_ext hE dc3, cell_ext hE dc4, cell_ext hE dc5⟩
            clear hK K hHeld
            have hHeld := hHeld2
            clear hHeld2
            (try simp only [Act.put, List.getElem_toArray, List.getElem_cons_succ, List.getElem_cons_zero, List.setIfInBounds_toArray, List.set_cons_zero, List.set_cons_succ])
            refine wpAnyH_ready (rs := [12]) (by kernel_rfl) (by simp) ?_
            refine AllReadyH.cons (o := _) rfl (fun K hK => ?_) ?_
            · go_simp
              have hy : Ext (y4) ((y4).alloc (.cells #[.bool false, .slice none 0 0] 24)) := Ext.alloc _ _; have hqP : x29.heap.size ≤ y4.heap.size := hE.size; have hE := hE.trans hy; have hdSP : pS < y4.heap.size := hBS.lt; have hvm := hvm.ext hy; have hvn := hvn.ext hy; have hvS := hvS.ext hy; have hvP := hvP.ext hy; have hBS := hBS.ext hy; have hBP : Blk ((y4).alloc (.cells #[.bool false, .slice none 0 0] 24)) y4.heap.size #[.bool false, .slice none 0 0] 24 := Blk.new0 _ _ _; generalize (y4).alloc (.cells #[.bool false, .slice none 0 0] 24) = y5 at *; generalize y4.heap.size = pP at *
              refine hK.out _ _ ?_ (fun hHeld2 => ?_)
              · exact ⟨cell_ext hE dc0, cell_ext hE dc1, cell_ext hE dc2, cell_ext hE dc3, cell_ext hE dc4, cell_ext hE dc5⟩
              clear hK K hHeld
              have hHeld := hHeld2
              clear hHeld2
              (try simp only [Act.put, List.getElem_toArray, List.getElem_cons_succ, List.getElem_cons_zero, List.setIfInBounds_toArray, List.set_cons_zero, List.set_cons_succ])
              refine wpAnyH_ready (rs := [13]) (by kernel_rfl) (by simp) ?_
              refine AllReadyH.cons (o := _) rfl (fun K hK => ?_) ?_
              · go_simp
                have g0 := hBS.cell (i := 0) (v := .bool false) rfl; have g1 := (hBS.set 0 (.bool nS)).cell (i := 1) (v := .slice none 0 0) rfl; have q0 := hBS.free 0; have q1 := (hBS.set 0 (.bool nS)).free 1; go_simp; have hE := (hE.set (p := ⟨pS, 0, none⟩) hqS (.bool nS)).set (p := ⟨pS, 1, none⟩) hqS (.slice aS qS cS); have hvm := (hvm.box hBS 0 (.bool nS)).box (hBS.set 0 (.bool nS)) 1 (.slice aS qS cS); have hvn := (hvn.box hBS 0 (.bool nS)).box (hBS.set 0 (.bool nS)) 1 (.slice aS qS cS); have hvS := (hvS.box hBS 0 (.bool nS)).box (hBS.set 0 (.bool nS)) 1 (.slice aS qS cS); have hvP := (hvP.box hBS 0 (.bool nS)).box (hBS.set 0 (.bool nS)) 1 (.slice aS qS cS); have hBP := (hBP.other (p := ⟨pS, 0, none⟩) (by dsimp only; omega) (.bool nS)).other (p := ⟨pS, 1, none⟩) (by dsimp only; omega) (.slice aS qS cS); have hBS := (hBS.set 0 (.bool nS)).set 1 (.slice aS qS cS); clear g0 g1 q0 q1; generalize ((y5).setCell ⟨pS, 0, none⟩ (.bool nS)).setCell ⟨pS, 1, none⟩ (.slice aS qS cS) = y6 at *
                refine hK.out _ _ ?_ (fun hHeld2 => ?_)
                · exact ⟨cell_ext hE dc0, cell_ext hE dc1, cell_ext hE dc2, cell_ext hE dc3, cell_ext hE dc4, cell_ext hE dc5⟩
                clear hK K hHeld
                have hHeld := hHeld2
                clear hHeld2
                (try simp only [Act.put, List.getElem_toArray, List.getElem_cons_succ, List.getElem_cons_zero, List.setIfInBounds_toArray, List.set_cons_zero, List.set_cons_succ])
                refine wpAnyH_ready (rs := [14]) (by kernel_rfl) (by simp) ?_
                refine AllReadyH.cons (o := _) rfl (fun K hK => ?_) ?_
                · go_simp
                  have g0 := hBP.cell (i := 0) (v := .bool false) rfl; have g1 := (hBP.set 0 (.bool nP)).cell (i := 1) (v := .slice none 0 0) rfl; have q0 := hBP.free 0; have q1 := (hBP.set 0 (.bool nP)).free 1; go_simp; have hE := (hE.set (p := ⟨pP, 0, none⟩) hqP (.bool nP)).set (p := ⟨pP, 1, none⟩) hqP (.slice aP qP cP); have hvm := (hvm.box hBP 0 (.bool nP)).box (hBP.set 0 (.bool nP)) 1 (.slice aP qP cP); have hvn := (hvn.box hBP 0 (.bool nP)).box (hBP.set 0 (.bool nP)) 1 (.slice aP qP cP); have hvS := (hvS.box hBP 0 (.bool nP)).box (hBP.set 0 (.bool nP)) 1 (.slice aP qP cP); have hvP := (hvP.box hBP 0 (.bool nP)).box (hBP.set 0 (.bool nP)) 1 (.slice aP qP cP); have hBS := (hBS.other (p := ⟨pP, 0, none⟩) (by dsimp only; omega) (.bool nP)).other (p := ⟨pP, 1, none⟩) (by dsimp only; omega) (.slice aP qP cP); have hBP := (hBP.set 0 (.bool nP)).set 1 (.slice aP qP cP); clear g0 g1 q0 q1; generalize ((y6).setCell ⟨pP, 0, none⟩ (.bool nP)).setCell ⟨pP, 1, none⟩ (.slice aP qP cP) = y7 at *
                  refine hK.out _ _ ?_ (fun hHeld2 => ?_)
                  · exact ⟨cell_ext hE dc0, cell_ext hE dc1, cell_ext hE dc2, cell_ext hE dc3, cell_ext hE dc4, cell_ext hE dc5⟩
                  clear hK K hHeld
                  have hHeld := hHeld2
                  clear hHeld2
                  (try simp only [Act.put, List.getElem_toArray, List.getElem_cons_succ, List.getElem_cons_zero, List.setIfInBounds_toArray, List.set_cons_zero, List.set_cons_succ])
                  refine wpAnyH_take (i := 15) (oi := _) (v := ?_) rfl (by kernel_rfl) (by kernel_rfl) (by kernel_rfl) (fun _ _ _ h => h) (Or.inl ⟨by rfl, ?_⟩) (by assumption) ?_
                  rotate_left
                  · (intro w hSw; (try dsimp only at hSw); (try go_simp); (try with_reducible rfl))
                  (try simp only [Act.put, List.getElem_toArray, List.getElem_cons_succ, List.getElem_cons_zero, List.setIfInBounds_toArray, List.set_cons_zero, List.set_cons_succ])
                  refine wpAnyH_done (by kernel_rfl) ?_ _
                  (go_wp2_with fail; go_meet; exact ⟨pS, pP, nS, aS, qS, cS, nP, aP, qP, cP, rfl, rfl, rfl, hBS, hBP, hvS, hvP, hE⟩)
                exact AllReadyH.nil
              exact AllReadyH.nil
            exact AllReadyH.nil
          refine AllReadyH.cons (o := _) rfl (fun K hK => ?_) ?_
          · go_simp
            have hy : Ext (y3) ((y3).alloc (.cells #[.bool false, .slice none 0 0] 24)) := Ext.alloc _ _; have hqP : x29.heap.size ≤ y3.heap.size := hE.size; have hE := hE.trans hy; have hvm := hvm.ext hy; have hvn := hvn.ext hy; have hvS := hvS.ext hy; have hvP := hvP.ext hy; have hBP : Blk ((y3).alloc (.cells #[.bool false, .slice none 0 0] 24)) y3.heap.size #[.bool false, .slice none 0 0] 24 := Blk.new0 _ _ _; generalize (y3).alloc (.cells #[.bool false, .slice none 0 0] 24) = y8 at *; generalize y3.heap.size = pP at *
            refine hK.out _ _ ?_ (fun hHeld2 => ?_)
            · exact ⟨cell_ext hE dc0, cell_ext hE dc1, cell_ext hE dc2, cell_ext hE dc3, cell_ext hE dc4, cell_ext hE dc5⟩
            clear hK K hHeld
            have hHeld := hHeld2
            clear hHeld2
            (try simp only [Act.put, List.getElem_toArray, List.getElem_cons_succ, List.getElem_cons_zero, List.setIfInBounds_toArray, List.set_cons_zero, List.set_cons_succ])
            refine wpAnyH_ready (rs := [11]) (by kernel_rfl) (by simp) ?_
            refine AllReadyH.cons (o := _) rfl (fun K hK => ?_) ?_
            · go_simp
              have hy : Ext (y8) ((y8).alloc (.cells #[.bool false, .slice none 0 0] 24)) := Ext.alloc _ _; have hqS : x29.heap.size ≤ y8.heap.size := hE.size; have hE := hE.trans hy; have hdPS : pP < y8.heap.size := hBP.lt; have hvm := hvm.ext hy; have hvn := hvn.ext hy; have hvS := hvS.ext hy; have hvP := hvP.ext hy; have hBP := hBP.ext hy; have hBS : Blk ((y8).alloc (.cells #[.bool false, .slice none 0 0] 24)) y8.heap.size #[.bool false, .slice none 0 0] 24 := Blk.new0 _ _ _; generalize (y8).alloc (.cells #[.bool false, .slice none 0 0] 24) = y9 at *; generalize y8.heap.size = pS at *
              refine hK.out _ _ ?_ (fun hHeld2 => ?_)
              · exact ⟨cell_ext hE dc0, cell_ext hE dc1, cell_ext hE dc2, cell_ext hE dc3, cell_ext hE dc4, cell_ext hE dc5⟩
              clear hK K hHeld
              have hHeld := hHeld2
              clear hHeld2
              (try simp only [Act.put, List.getElem_toArray, List.getElem_cons_succ, List.getElem_cons_zero, List.setIfInBounds_toArray, List.set_cons_zero, List.set_cons_succ])
              refine wpAnyH_ready (rs := [13]) (by kernel_rfl) (by simp) ?_
              refine AllReadyH.cons (o := _) rfl (fun K hK => ?_) ?_
              · go_simp
                have g0 := hBS.cell (i := 0) (v := .bool false) rfl; have g1 := (hBS.set 0 (.bool nS)).cell (i := 1) (v := .slice none 0 0) rfl; have q0 := hBS.free 0; have q1 := (hBS.set 0 (.bool nS)).free 1; go_simp; have hE := (hE.set (p := ⟨pS, 0, none⟩) hqS (.bool nS)).set (p := ⟨pS, 1, none⟩) hqS (.slice aS qS cS); have hvm := (hvm.box hBS 0 (.bool nS)).box (hBS.set 0 (.bool nS)) 1 (.slice aS qS cS); have hvn := (hvn.box hBS 0 (.bool nS)).box (hBS.set 0 (.bool nS)) 1 (.slice aS qS cS); have hvS := (hvS.box hBS 0 (.bool nS)).box (hBS.set 0 (.bool nS)) 1 (.slice aS qS cS); have hvP := (hvP.box hBS 0 (.bool nS)).box (hBS.set 0 (.bool nS)) 1 (.slice aS qS cS); have hBP := (hBP.other (p := ⟨pS, 0, none⟩) (by dsimp only; omega) (.bool nS)).other (p := ⟨pS, 1, none⟩) (by dsimp only; omega) (.slice aS qS cS); have hBS := (hBS.set 0 (.bool nS)).set 1 (.slice aS qS cS); clear g0 g1 q0 q1; generalize ((y9).setCell ⟨pS, 0, none⟩ (.bool nS)).setCell ⟨pS, 1, none⟩ (.slice aS qS cS) = y10 at *
                refine hK.out _ _ ?_ (fun hHeld2 => ?_)
                · exact ⟨cell_ext hE dc0, cell_ext hE dc1, cell_ext hE dc2, cell_ext hE dc3, cell_ext hE dc4, cell_ext hE dc5⟩
                clear hK K hHeld
                have hHeld := hHeld2
                clear hHeld2
                (try simp only [Act.put, List.getElem_toArray, List.getElem_cons_succ, List.getElem_cons_zero, List.setIfInBounds_toArray, List.set_cons_zero, List.set_cons_succ])
                refine wpAnyH_ready (rs := [14]) (by kernel_rfl) (by simp) ?_
                refine AllReadyH.cons (o := _) rfl (fun K hK => ?_) ?_
                · go_simp
                  have g0 := hBP.cell (i := 0) (v := .bool false) rfl; have g1 := (hBP.set 0 (.bool nP)).cell (i := 1) (v := .slice none 0 0) rfl; have q0 := hBP.free 0; have q1 := (hBP.set 0 (.bool nP)).free 1; go_simp; have hE := (hE.set (p := ⟨pP, 0, none⟩) hqP (.bool nP)).set (p := ⟨pP, 1, none⟩) hqP (.slice aP qP cP); have hvm := (hvm.box hBP 0 (.bool nP)).box (hBP.set 0 (.bool nP)) 1 (.slice aP qP cP); have hvn := (hvn.box hBP 0 (.bool nP)).box (hBP.set 0 (.bool nP)) 1 (.slice aP qP cP); have hvS := (hvS.box hBP 0 (.bool nP)).box (hBP.set 0 (.bool nP)) 1 (.slice aP qP cP); have hvP := (hvP.box hBP 0 (.bool nP)).box (hBP.set 0 (.bool nP)) 1 (.slice aP qP cP); have hBS := (hBS.other (p := ⟨pP, 0, none⟩) (by dsimp only; omega) (.bool nP)).other (p := ⟨pP, 1, none⟩) (by dsimp only; omega) (.slice aP qP cP); have hBP := (hBP.set 0 (.bool nP)).set 1 (.slice aP qP cP); clear g0 g1 q0 q1; generalize ((y10).setCell ⟨pP, 0, none⟩ (.bool nP)).setCell ⟨pP, 1, none⟩ (.slice aP qP cP) = y11 at *
                  refine hK.out _ _ ?_ (fun hHeld2 => ?_)
                  · exact ⟨cell_ext hE dc0, cell_ext hE dc1, cell_ext hE dc2, cell_ext hE dc3, cell_ext hE dc4, cell_ext hE dc5⟩
                  clear hK K hHeld
                  have hHeld := hHeld2
                  clear hHeld2
                  (try simp only [Act.put, List.getElem_toArray, List.getElem_cons_succ, List.getElem_cons_zero, List.setIfInBounds_toArray, List.set_cons_zero, List.set_cons_succ])
                  refine wpAnyH_take (i := 15) (oi := _) (v := ?_) rfl (by kernel_rfl) (by kernel_rfl) (by kernel_rfl) (fun _ _ _ h => h) (Or.inl ⟨by rfl, ?_⟩) (by assumption) ?_
                  rotate_left
                  · (intro w hSw; (try dsimp only at hSw); (try go_simp); (try with_reducible rfl))
                  (try simp only [Act.put, List.getElem_toArray, List.getElem_cons_succ, List.getElem_cons_zero, List.setIfInBounds_toArray, List.set_cons_zero, List.set_cons_succ])
                  refine wpAnyH_done (by kernel_rfl) ?_ _
                  (go_wp2_with fail; go_meet; exact ⟨pS, pP, nS, aS, qS, cS, nP, aP, qP, cP, rfl, rfl, rfl, hBS, hBP, hvS, hvP, hE⟩)
                exact AllReadyH.nil
              exact AllReadyH.nil
            exact AllReadyH.nil
          exact AllReadyH.nil
        refine AllReadyH.cons (o := _) rfl (fun K hK => ?_) ?_
        · go_simp
          have hy : Ext (y2) ((y2).alloc (.cells #[.bool false, .slice none 0 0] 24)) := Ext.alloc _ _; have hqS : x29.heap.size ≤ y2.heap.size := hE.size; have hE := hE.trans hy; have hvm := hvm.ext hy; have hvn := hvn.ext hy; have hBS : Blk ((y2).alloc (.cells #[.bool false, .slice none 0 0] 24)) y2.heap.size #[.bool false, .slice none 0 0] 24 := Blk.new0 _ _ _; generalize (y2).alloc (.cells #[.bool false, .slice none 0 0] 24) = y12 at *; generalize y2.heap.size = pS at *
          refine hK.out _ _ ?_ (fun hHeld2 => ?_)
          · exact ⟨cell_ext hE dc0, cell_ext hE dc1, cell_ext hE dc2, cell_ext hE dc3, cell_ext hE dc4, cell_ext hE dc5⟩
          clear hK K hHeld
          have hHeld := hHeld2
          clear hHeld2
          (try simp only [Act.put, List.getElem_toArray, List.getElem_cons_succ, List.getElem_cons_zero, List.setIfInBounds_toArray, List.set_cons_zero, List.set_cons_succ])
          refine wpAnyH_ready (rs := [6, 12]) (by kernel_rfl) (by simp) ?_
          refine AllReadyH.cons (o := _) rfl (fun K hK => ?_) ?_
          · go_simp
            (with_reducible refine (div_any hvn (Vb.out.ext hE) Lj.out Lb.out HB0.out).mono ?_); rintro e y13 ⟨vS, vP, rfl, hvS, hvP, hy⟩; have hE := hE.trans hy; have hvm := hvm.ext hy; have hvn := hvn.ext hy; have hBS := hBS.ext hy; rw [HU.out.1] at hvS; rw [HU.out.2] at hvP; obtain ⟨nS, aS, qS, cS, rfl⟩ := hvS.form; obtain ⟨nP, aP, qP, cP, rfl⟩ := hvP.form
            refine hK.out _ _ ?_ (fun hHeld2 => ?_)
            · exact ⟨cell_ext hE dc0, cell_ext hE dc1, cell_ext hE dc2, cell_ext hE dc3, cell_ext hE dc4, cell_ext hE dc5⟩
            clear hK K hHeld
            have hHeld := hHeld2
            clear hHeld2
            (try simp only [Act.put, List.getElem_toArray, List.getElem_cons_succ, List.getElem_cons_zero, List.setIfInBounds_toArray, List.set_cons_zero, List.set_cons_succ])
            refine wpAnyH_take (i := 7) (oi := _) (v := ?_) rfl (by kernel_rfl) (by kernel_rfl) (by kernel_rfl) (fun _ _ _ h => h) (Or.inl ⟨by rfl, ?_⟩) (by assumption) ?_
            rotate_left
            · (intro w hSw; (try dsimp only at hSw); (try go_simp); (try with_reducible rfl))
            (try simp only [Act.put, List.getElem_toArray, List.getElem_cons_succ, List.getElem_cons_zero, List.setIfInBounds_toArray, List.set_cons_zero, List.set_cons_succ])
            refine wpAnyH_take (i := 8) (oi := _) (v := ?_) rfl (by kernel_rfl) (by kernel_rfl) (by kernel_rfl) (fun _ _ _ h => h) (Or.inl ⟨by rfl, ?_⟩) (by assumption) ?_
            rotate_left
            · (intro w hSw; (try dsimp only at hSw); (try go_simp); (try with_reducible rfl))
            (try simp only [Act.put, List.getElem_toArray, List.getElem_cons_succ, List.getElem_cons_zero, List.setIfInBounds_toArray, List.set_cons_zero, List.set_cons_succ])
            refine wpAnyH_take (i := 9) (oi := _) (v := ?_) rfl (by kernel_rfl) (by kernel_rfl) (by kernel_rfl) (fun _ _ _ h => h) (Or.inl ⟨by rfl, ?_⟩) (by assumption) ?_
            rotate_left
            · (intro w hSw; (try dsimp only at hSw); (try go_simp); (try with_reducible rfl))
            (try simp only [Act.put, List.getElem_toArray, List.getElem_cons_succ, List.getElem_cons_zero, List.setIfInBounds_toArray, List.set_cons_zero, List.set_cons_succ])
            refine wpAnyH_take (i := 10) (oi := _) (v := ?_) rfl (by kernel_rfl) (by kernel_rfl) (by kernel_rfl) (fun _ _ _ h => h) (Or.inl ⟨by rfl, ?_⟩) (by assumption) ?_
            rotate_left
            · (intro w hSw; (try dsimp only at hSw); (try go_simp); (try with_reducible rfl))
            (try simp only [Act.put, List.getElem_toArray, List.getElem_cons_succ, List.getElem_cons_zero, List.setIfInBounds_toArray, List.set_cons_zero, List.set_cons_succ])
            refine wpAnyH_ready (rs := [12]) (by kernel_rfl) (by simp) ?_
            refine AllReadyH.cons (o := _) rfl (fun K hK => ?_) ?_
            · go_simp
              have hy : Ext (y13) ((y13).alloc (.cells #[.bool false, .slice none 0 0] 24)) := Ext.alloc _ _; have hqP : x29.heap.size ≤ y13.heap.size := hE.size; have hE := hE.trans hy; have hdSP : pS < y13.heap.size := hBS.lt; have hvm := hvm.ext hy; have hvn := hvn.ext hy; have hBS := hBS.ext hy; have hvS := hvS.ext hy; have hvP := hvP.ext hy; have hBP : Blk ((y13).alloc (.cells #[.bool false, .slice none 0 0] 24)) y13.heap.size #[.bool false, .slice none 0 0] 24 := Blk.new0 _ _ _; generalize (y13).alloc (.cells #[.bool false, .slice none 0 0] 24) = y14 at *; generalize y13.heap.size = pP at *
              refine hK.out _ _ ?_ (fun hHeld2 => ?_)
              · exact ⟨cell_ext hE dc0, cell_ext hE dc1, cell_ext hE dc2, cell_ext hE dc3, cell_ext hE dc4, cell_ext hE dc5⟩
              clear hK K hHeld
              have hHeld := hHeld2
              clear hHeld2
              (try simp only [Act.put, List.getElem_toArray, List.getElem_cons_succ, List.getElem_cons_zero, List.setIfInBounds_toArray, List.set_cons_zero, List.set_cons_succ])
              refine wpAnyH_ready (rs := [13]) (by kernel_rfl) (by simp) ?_
              refine AllReadyH.cons (o := _) rfl (fun K hK => ?_) ?_
              · go_simp
                have g0 := hBS.cell (i := 0) (v := .bool false) rfl; have g1 := (hBS.set 0 (.bool nS)).cell (i := 1) (v := .slice none 0 0) rfl; have q0 := hBS.free 0; have q1 := (hBS.set 0 (.bool nS)).free 1; go_simp; have hE := (hE.set (p := ⟨pS, 0, none⟩) hqS (.bool nS)).set (p := ⟨pS, 1, none⟩) hqS (.slice aS qS cS); have hvm := (hvm.box hBS 0 (.bool nS)).box (hBS.set 0 (.bool nS)) 1 (.slice aS qS cS); have hvn := (hvn.box hBS 0 (.bool nS)).box (hBS.set 0 (.bool nS)) 1 (.slice aS qS cS); have hvS := (hvS.box hBS 0 (.bool nS)).box (hBS.set 0 (.bool nS)) 1 (.slice aS qS cS); have hvP := (hvP.box hBS 0 (.bool nS)).box (hBS.set 0 (.bool nS)) 1 (.slice aS qS cS); have hBP := (hBP.other (p := ⟨pS, 0, none⟩) (by dsimp only; omega) (.bool nS)).other (p := ⟨pS, 1, none⟩) (by dsimp only; omega) (.slice aS qS cS); have hBS := (hBS.set 0 (.bool nS)).set 1 (.slice aS qS cS); clear g0 g1 q0 q1; generalize ((y14).setCell ⟨pS, 0, none⟩ (.bool nS)).setCell ⟨pS, 1, none⟩ (.slice aS qS cS) = y15 at *
                refine hK.out _ _ ?_ (fun hHeld2 => ?_)
                · exact ⟨cell_ext hE dc0, cell_ext hE dc1, cell_ext hE dc2, cell_ext hE dc3, cell_ext hE dc4, cell_ext hE dc5⟩
                clear hK K hHeld
                have hHeld := hHeld2
                clear hHeld2
                (try simp only [Act.put, List.getElem_toArray, List.getElem_cons_succ, List.getElem_cons_zero, List.setIfInBounds_toArray, List.set_cons_zero, List.set_cons_succ])
                refine wpAnyH_ready (rs := [14]) (by kernel_rfl) (by simp) ?_
                refine AllReadyH.cons (o := _) rfl (fun K hK => ?_) ?_
                · go_simp
                  have g0 := hBP.cell (i := 0) (v := .bool false) rfl; have g1 := (hBP.set 0 (.bool nP)).cell (i := 1) (v := .slice none 0 0) rfl; have q0 := hBP.free 0; have q1 := (hBP.set 0 (.bool nP)).free 1; go_simp; have hE := (hE.set (p := ⟨pP, 0, none⟩) hqP (.bool nP)).set (p := ⟨pP, 1, none⟩) hqP (.slice aP qP cP); have hvm := (hvm.box hBP 0 (.bool nP)).box (hBP.set 0 (.bool nP)) 1 (.slice aP qP cP); have hvn := (hvn.box hBP 0 (.bool nP)).box (hBP.set 0 (.bool nP)) 1 (.slice aP qP cP); have hBS := (hBS.other (p := ⟨pP, 0, none⟩) (by dsimp only; omega) (.bool nP)).other (p := ⟨pP, 1, none⟩) (by dsimp only; omega) (.slice aP qP cP); have hvS := (hvS.box hBP 0 (.bool nP)).box (hBP.set 0 (.bool nP)) 1 (.slice aP qP cP); have hvP := (hvP.box hBP 0 (.bool nP)).box (hBP.set 0 (.bool nP)) 1 (.slice aP qP cP); have hBP := (hBP.set 0 (.bool nP)).set 1 (.slice aP qP cP); clear g0 g1 q0 q1; generalize ((y15).setCell ⟨pP, 0, none⟩ (.bool nP)).setCell ⟨pP, 1, none⟩ (.slice aP qP cP) = y16 at *
                  refine hK.out _ _ ?_ (fun hHeld2 => ?_)
                  · exact ⟨cell_ext hE dc0, cell_ext hE dc1, cell_ext hE dc2, cell_ext hE dc3, cell_ext hE dc4, cell_ext hE dc5⟩
                  clear hK K hHeld
                  have hHeld := hHeld2
                  clear hHeld2
                  (try simp only [Act.put, List.getElem_toArray, List.getElem_cons_succ, List.getElem_cons_zero, List.setIfInBounds_toArray, List.set_cons_zero, List.set_cons_succ])
                  refine wpAnyH_take (i := 15) (oi := _) (v := ?_) rfl (by kernel_rfl) (by kernel_rfl) (by kernel_rfl) (fun _ _ _ h => h) (Or.inl ⟨by rfl, ?_⟩) (by assumption) ?_
                  rotate_left
                  · (intro w hSw; (try dsimp only at hSw); (try go_simp); (try with_reducible rfl))
                  (try simp only [Act.put, List.getElem_toArray, List.getElem_cons_succ, List.getElem_cons_zero, List.setIfInBounds_toArray, List.set_cons_zero, List.set_cons_succ])
                  refine wpAnyH_done (by kernel_rfl) ?_ _
                  (go_wp2_with fail; go_meet; exact ⟨pS, pP, nS, aS, qS, cS, nP, aP, qP, cP, rfl, rfl, rfl, hBS, hBP, hvS, hvP, hE⟩)
                exact AllReadyH.nil
              exact AllReadyH.nil
            exact AllReadyH.nil
          refine AllReadyH.cons (o := _) rfl (fun K hK => ?_) ?_
          · go_simp
            have hy : Ext (y12) ((y12).alloc (.cells #[.bool false, .slice none 0 0] 24)) := Ext.alloc _ _; have hqP : x29.heap.size ≤ y12.heap.size := hE.size; have hE := hE.trans hy; have hdSP : pS < y12.heap.size := hBS.lt; have hvm := hvm.ext hy; have hvn := hvn.ext hy; have hBS := hBS.ext hy; have hBP : Blk ((y12).alloc (.cells #[.bool false, .slice none 0 0] 24)) y12.heap.size #[.bool false, .slice none 0 0] 24 := Blk.new0 _ _ _; generalize (y12).alloc (.cells #[.bool false, .slice none 0 0] 24) = y17 at *; generalize y12.heap.size = pP at *
            refine hK.out _ _ ?_ (fun hHeld2 => ?_)
            · exact ⟨cell_ext hE dc0, cell_ext hE dc1, cell_ext hE dc2, cell_ext hE dc3, cell_ext hE dc4, cell_ext hE dc5⟩
            clear hK K hHeld
            have hHeld := hHeld2
            clear hHeld2
            (try simp only [Act.put, List.getElem_toArray, List.getElem_cons_succ, List.getElem_cons_zero, List.setIfInBounds_toArray, List.set_cons_zero, List.set_cons_succ])
            refine wpAnyH_ready (rs := [6]) (by kernel_rfl) (by simp) ?_
            refine AllReadyH.cons (o := _) rfl (fun K hK => ?_) ?_
            · go_simp
              (with_reducible refine (div_any hvn (Vb.out.ext hE) Lj.out Lb.out HB0.out).mono ?_); rintro e y18 ⟨vS, vP, rfl, hvS, hvP, hy⟩; have hE := hE.trans hy; have hvm := hvm.ext hy; have hvn := hvn.ext hy; have hBS := hBS.ext hy; have hBP := hBP.ext hy; rw [HU.out.1] at hvS; rw [HU.out.2] at hvP; obtain ⟨nS, aS, qS, cS, rfl⟩ := hvS.form; obtain ⟨nP, aP, qP, cP, rfl⟩ := hvP.form
              refine hK.out _ _ ?_ (fun hHeld2 => ?_)
              · exact ⟨cell_ext hE dc0, cell_ext hE dc1, cell_ext hE dc2, cell_ext hE dc3, cell_ext hE dc4, cell_ext hE dc5⟩
              clear hK K hHeld
              have hHeld := hHeld2
              clear hHeld2
              (try simp only [Act.put, List.getElem_toArray, List.getElem_cons_succ, List.getElem_cons_zero, List.setIfInBounds_toArray, List.set_cons_zero, List.set_cons_succ])
              refine wpAnyH_take (i := 7) (oi := _) (v := ?_) rfl (by kernel_rfl) (by kernel_rfl) (by kernel_rfl) (fun _ _ _ h => h) (Or.inl ⟨by rfl, ?_⟩) (by assumption) ?_
              rotate_left
              · (intro w hSw; (try dsimp only at hSw); (try go_simp); (try with_reducible rfl))
              (try simp only [Act.put, List.getElem_toArray, List.getElem_cons_succ, List.getElem_cons_zero, List.setIfInBounds_toArray, List.set_cons_zero, List.set_cons_succ])
              refine wpAnyH_take (i := 8) (oi := _) (v := ?_) rfl (by kernel_rfl) (by kernel_rfl) (by kernel_rfl) (fun _ _ _ h => h) (Or.inl ⟨by rfl, ?_⟩) (by assumption) ?_
              rotate_left
              · (intro w hSw; (try dsimp only at hSw); (try go_simp); (try with_reducible rfl))
              (try simp only [Act.put, List.getElem_toArray, List.getElem_cons_succ, List.getElem_cons_zero, List.setIfInBounds_toArray, List.set_cons_zero, List.set_cons_succ])
              refine wpAnyH_take (i := 9) (oi := _) (v := ?_) rfl (by kernel_rfl) (by kernel_rfl) (by kernel_rfl) (fun _ _ _ h => h) (Or.inl ⟨by rfl, ?_⟩) (by assumption) ?_
              rotate_left
              · (intro w hSw; (try dsimp only at hSw); (try go_simp); (try with_reducible rfl))
              (try simp only [Act.put, List.getElem_toArray, List.getElem_cons_succ, List.getElem_cons_zero, List.setIfInBounds_toArray, List.set_cons_zero, List.set_cons_succ])
              refine wpAnyH_take (i := 10) (oi := _) (v := ?_) rfl (by kernel_rfl) (by kernel_rfl) (by kernel_rfl) (fun _ _ _ h => h) (Or.inl ⟨by rfl, ?_⟩) (by assumption) ?_
              rotate_left
              · (intro w hSw; (try dsimp only at hSw); (try go_simp); (try with_reducible rfl))
              (try simp only [Act.put, List.getElem_toArray, List.getElem_cons_succ, List.getElem_cons_zero, List.setIfInBounds_toArray, List.set_cons_zero, List.set_cons_succ])
              refine wpAnyH_ready (rs := [13]) (by kernel_rfl) (by simp) ?_
              refine AllReadyH.cons (o := _) rfl (fun K hK => ?_) ?_
              · go_simp
                have g0 := hBS.cell (i := 0) (v := .bool false) rfl; have g1 := (hBS.set 0 (.bool nS)).cell (i := 1) (v := .slice none 0 0) rfl; have q0 := hBS.free 0; have q1 := (hBS.set 0 (.bool nS)).free 1; go_simp; have hE := (hE.set (p := ⟨pS, 0, none⟩) hqS (.bool nS)).set (p := ⟨pS, 1, none⟩) hqS (.slice aS qS cS); have hvm := (hvm.box hBS 0 (.bool nS)).box (hBS.set 0 (.bool nS)) 1 (.slice aS qS cS); have hvn := (hvn.box hBS 0 (.bool nS)).box (hBS.set 0 (.bool nS)) 1 (.slice aS qS cS); have hBP := (hBP.other (p := ⟨pS, 0, none⟩) (by dsimp only; omega) (.bool nS)).other (p := ⟨pS, 1, none⟩) (by dsimp only; omega) (.slice aS qS cS); have hvS := (hvS.box hBS 0 (.bool nS)).box (hBS.set 0 (.bool nS)) 1 (.slice aS qS cS); have hvP := (hvP.box hBS 0 (.bool nS)).box (hBS.set 0 (.bool nS)) 1 (.slice aS qS cS); have hBS := (hBS.set 0 (.bool nS)).set 1 (.slice aS qS cS); clear g0 g1 q0 q1; generalize ((y18).setCell ⟨pS, 0, none⟩ (.bool nS)).setCell ⟨pS, 1, none⟩ (.slice aS qS cS) = y19 at *
                refine hK.out _ _ ?_ (fun hHeld2 => ?_)
                · exact ⟨cell_ext hE dc0, cell_ext hE dc1, cell_ext hE dc2, cell_ext hE dc3, cell_ext hE dc4, cell_ext hE dc5⟩
                clear hK K hHeld
                have hHeld := hHeld2
                clear hHeld2
                (try simp only [Act.put, List.getElem_toArray, List.getElem_cons_succ, List.getElem_cons_zero, List.setIfInBounds_toArray, List.set_cons_zero, List.set_cons_succ])
                refine wpAnyH_ready (rs := [14]) (by kernel_rfl) (by simp) ?_
                refine AllReadyH.cons (o := _) rfl (fun K hK => ?_) ?_
                · go_simp
                  have g0 := hBP.cell (i := 0) (v := .bool false) rfl; have g1 := (hBP.set 0 (.bool nP)).cell (i := 1) (v := .slice none 0 0) rfl; have q0 := hBP.free 0; have q1 := (hBP.set 0 (.bool nP)).free 1; go_simp; have hE := (hE.set (p := ⟨pP, 0, none⟩) hqP (.bool nP)).set (p := ⟨pP, 1, none⟩) hqP (.slice aP qP cP); have hvm := (hvm.box hBP 0 (.bool nP)).box (hBP.set 0 (.bool nP)) 1 (.slice aP qP cP); have hvn := (hvn.box hBP 0 (.bool nP)).box (hBP.set 0 (.bool nP)) 1 (.slice aP qP cP); have hBS := (hBS.other (p := ⟨pP, 0, none⟩) (by dsimp only; omega) (.bool nP)).other (p := ⟨pP, 1, none⟩) (by dsimp only; omega) (.slice aP qP cP); have hvS := (hvS.box hBP 0 (.bool nP)).box (hBP.set 0 (.bool nP)) 1 (.slice aP qP cP); have hvP := (hvP.box hBP 0 (.bool nP)).box (hBP.set 0 (.bool nP)) 1 (.slice aP qP cP); have hBP := (hBP.set 0 (.bool nP)).set 1 (.slice aP qP cP); clear g0 g1 q0 q1; generalize ((y19).setCell ⟨pP, 0, none⟩ (.bool nP)).setCell ⟨pP, 1, none⟩ (.slice aP qP cP) = y20 at *
                  refine hK.out _ _ ?_ (fun hHeld2 => ?_)
                  · exact ⟨cell_ext hE dc0, cell_ext hE dc1, cell_ext hE dc2, cell_ext hE dc3, cell_ext hE dc4, cell_ext hE dc5⟩
                  clear hK K hHeld
                  have hHeld := hHeld2
                  clear hHeld2
                  (try simp only [Act.put, List.getElem_toArray, List.getElem_cons_succ, List.getElem_cons_zero, List.setIfInBounds_toArray, List.set_cons_zero, List.set_cons_succ])
                  refine wpAnyH_take (i := 15) (oi := _) (v := ?_) rfl (by kernel_rfl) (by kernel_rfl) (by kernel_rfl) (fun _ _ _ h => h) (Or.inl ⟨by rfl, ?_⟩) (by assumption) ?_
                  rotate_left
                  · (intro w hSw; (try dsimp only at hSw); (try go_simp); (try with_reducible rfl))
                  (try simp only [Act.put, List.getElem_toArray, List.getElem_cons_succ, List.getElem_cons_zero, List.setIfInBounds_toArray, List.set_cons_zero, List.set_cons_succ])
                  refine wpAnyH_done (by kernel_rfl) ?_ _
                  (go_wp2_with fail; go_meet; exact ⟨pS, pP, nS, aS, qS, cS, nP, aP, qP, cP, rfl, rfl, rfl, hBS, hBP, hvS, hvP, hE⟩)
                exact AllReadyH.nil
              exact AllReadyH.nil
            exact AllReadyH.nil
          exact AllReadyH.nil
        refine AllReadyH.cons (o := _) rfl (fun K hK => ?_) ?_
        · go_simp
          have hy : Ext (y2) ((y2).alloc (.cells #[.bool false, .slice none 0 0] 24)) := Ext.alloc _ _; have hqP : x29.heap.size ≤ y2.heap.size := hE.size; have hE := hE.trans hy; have hvm := hvm.ext hy; have hvn := hvn.ext hy; have hBP : Blk ((y2).alloc (.cells #[.bool false, .slice none 0 0] 24)) y2.heap.size #[.bool false, .slice none 0 0] 24 := Blk.new0 _ _ _; generalize (y2).alloc (.cells #[.bool false, .slice none 0 0] 24) = y21 at *; generalize y2.heap.size = pP at *
          refine hK.out _ _ ?_ (fun hHeld2 => ?_)
          · exact ⟨cell_ext hE dc0, cell_ext hE dc1, cell_ext hE dc2, cell_ext hE dc3, cell_ext hE dc4, cell_ext hE dc5⟩
          clear hK K hHeld
          have hHeld := hHeld2
          clear hHeld2
          (try simp only [Act.put, List.getElem_toArray, List.getElem_cons_succ, List.getElem_cons_zero, List.setIfInBounds_toArray, List.set_cons_zero, List.set_cons_succ])
          refine wpAnyH_ready (rs := [6, 11]) (by kernel_rfl) (by simp) ?_
          refine AllReadyH.cons (o := _) rfl (fun K hK => ?_) ?_
          · go_simp
            (with_reducible refine (div_any hvn (Vb.out.ext hE) Lj.out Lb.out HB0.out).mono ?_); rintro e y22 ⟨vS, vP, rfl, hvS, hvP, hy⟩; have hE := hE.trans hy; have hvm := hvm.ext hy; have hvn := hvn.ext hy; have hBP := hBP.ext hy; rw [HU.out.1] at hvS; rw [HU.out.2] at hvP; obtain ⟨nS, aS, qS, cS, rfl⟩ := hvS.form; obtain ⟨nP, aP, qP, cP, rfl⟩ := hvP.form
            refine hK.out _ _ ?_ (fun hHeld2 => ?_)
            · exact ⟨cell_ext hE dc0, cell_ext hE dc1, cell_ext hE dc2, cell_ext hE dc3, cell_ext hE dc4, cell_ext hE dc5⟩
            clear hK K hHeld
            have hHeld := hHeld2
            clear hHeld2
            (try simp only [Act.put, List.getElem_toArray, List.getElem_cons_succ, List.getElem_cons_zero, List.setIfInBounds_toArray, List.set_cons_zero, List.set_cons_succ])
            refine wpAnyH_take (i := 7) (oi := _) (v := ?_) rfl (by kernel_rfl) (by kernel_rfl) (by kernel_rfl) (fun _ _ _ h => h) (Or.inl ⟨by rfl, ?_⟩) (by assumption) ?_
            rotate_left
            · (intro w hSw; (try dsimp only at hSw); (try go_simp); (try with_reducible rfl))
            (try simp only [Act.put, List.getElem_toArray, List.getElem_cons_succ, List.getElem_cons_zero, List.setIfInBounds_toArray, List.set_cons_zero, List.set_cons_succ])
            refine wpAnyH_take (i := 8) (oi := _) (v := ?_) rfl (by kernel_rfl) (by kernel_rfl) (by kernel_rfl) (fun _ _ _ h => h) (Or.inl ⟨by rfl, ?_⟩) (by assumption) ?_
            rotate_left
            · (intro w hSw; (try dsimp only at hSw); (try go_simp); (try with_reducible rfl))
            (try simp only [Act.put, List.getElem_toArray, List.getElem_cons_succ, List.getElem_cons_zero, List.setIfInBounds_toArray, List.set_cons_zero, List.set_cons_succ])
            refine wpAnyH_take (i := 9) (oi := _) (v := ?_) rfl (by kernel_rfl) (by kernel_rfl) (by kernel_rfl) (fun _ _ _ h => h) (Or.inl ⟨by rfl, ?_⟩) (by assumption) ?_
            rotate_left
            · (intro w hSw; (try dsimp only at hSw); (try go_simp); (try with_reducible rfl))
            (try simp only [Act.put, List.getElem_toArray, List.getElem_cons_succ, List.getElem_cons_zero, List.setIfInBounds_toArray, List.set_cons_zero, List.set_cons_succ])
            refine wpAnyH_take (i := 10) (oi := _) (v := ?_) rfl (by kernel_rfl) (by kernel_rfl) (by kernel_rfl) (fun _ _ _ h => h) (Or.inl ⟨by rfl, ?_⟩) (by assumption) ?_
            rotate_left
            · (intro w hSw; (try dsimp only at hSw); (try go_simp); (try with_reducible rfl))
            (try simp only [Act.put, List.getElem_toArray, List.getElem_cons_succ, List.getElem_cons_zero, List.setIfInBounds_toArray, List.set_cons_zero, List.set_cons_succ])
            refine wpAnyH_ready (rs := [11]) (by kernel_rfl) (by simp) ?_
            refine AllReadyH.cons (o := _) rfl (fun K hK => ?_) ?_
            · go_simp
              have hy : Ext (y22) ((y22).alloc (.cells #[.bool false, .slice none 0 0] 24)) := Ext.alloc _ _; have hqS : x29.heap.size ≤ y22.heap.size := hE.size; have hE := hE.trans hy; have hdPS : pP < y22.heap.size := hBP.lt; have hvm := hvm.ext hy; have hvn := hvn.ext hy; have hBP := hBP.ext hy; have hvS := hvS.ext hy; have hvP := hvP.ext hy; have hBS : Blk ((y22).alloc (.cells #[.bool false, .slice none 0 0] 24)) y22.heap.size #[.bool false, .slice none 0 0] 24 := Blk.new0 _ _ _; generalize (y22).alloc (.cells #[.bool false, .slice none 0 0] 24) = y23 at *; generalize y22.heap.size = pS at *
              refine hK.out _ _ ?_ (fun hHeld2 => ?_)
              · exact ⟨cell_ext hE dc0, cell_ext hE dc1, cell_ext hE dc2, cell_ext hE dc3, cell_ext hE dc4, cell_ext hE dc5⟩
              clear hK K hHeld
              have hHeld := hHeld2
              clear hHeld2
              (try simp only [Act.put, List.getElem_toArray, List.getElem_cons_succ, List.getElem_cons_zero, List.setIfInBounds_toArray, List.set_cons_zero, List.set_cons_succ])
              refine wpAnyH_ready (rs := [13]) (by kernel_rfl) (by simp) ?_
              refine AllReadyH.cons (o := _) rfl (fun K hK => ?_) ?_
              · go_simp
                have g0 := hBS.cell (i := 0) (v := .bool false) rfl; have g1 := (hBS.set 0 (.bool nS)).cell (i := 1) (v := .slice none 0 0) rfl; have q0 := hBS.free 0; have q1 := (hBS.set 0 (.bool nS)).free 1; go_simp; have hE := (hE.set (p := ⟨pS, 0, none⟩) hqS (.bool nS)).set (p := ⟨pS, 1, none⟩) hqS (.slice aS qS cS); have hvm := (hvm.box hBS 0 (.bool nS)).box (hBS.set 0 (.bool nS)) 1 (.slice aS qS cS); have hvn := (hvn.box hBS 0 (.bool nS)).box (hBS.set 0 (.bool nS)) 1 (.slice aS qS cS); have hBP := (hBP.other (p := ⟨pS, 0, none⟩) (by dsimp only; omega) (.bool nS)).other (p := ⟨pS, 1, none⟩) (by dsimp only; omega) (.slice aS qS cS); have hvS := (hvS.box hBS 0 (.bool nS)).box (hBS.set 0 (.bool nS)) 1 (.slice aS qS cS); have hvP := (hvP.box hBS 0 (.bool nS)).box (hBS.set 0 (.bool nS)) 1 (.slice aS qS cS); have hBS := (hBS.set 0 (.bool nS)).set 1 (.slice aS qS cS); clear g0 g1 q0 q1; generalize ((y23).setCell ⟨pS, 0, none⟩ (.bool nS)).setCell ⟨pS, 1, none⟩ (.slice aS qS cS) = y24 at *
                refine hK.out _ _ ?_ (fun hHeld2 => ?_)
                · exact ⟨cell_ext hE dc0, cell_ext hE dc1, cell_ext hE dc2, cell_ext hE dc3, cell_ext hE dc4, cell_ext hE dc5⟩
                clear hK K hHeld
                have hHeld := hHeld2
                clear hHeld2
                (try simp only [Act.put, List.getElem_toArray, List.getElem_cons_succ, List.getElem_cons_zero, List.setIfInBounds_toArray, List.set_cons_zero, List.set_cons_succ])
                refine wpAnyH_ready (rs := [14]) (by kernel_rfl) (by simp) ?_
                refine AllReadyH.cons (o := _) rfl (fun K hK => ?_) ?_
                · go_simp
                  have g0 := hBP.cell (i := 0) (v := .bool false) rfl; have g1 := (hBP.set 0 (.bool nP)).cell (i := 1) (v := .slice none 0 0) rfl; have q0 := hBP.free 0; have q1 := (hBP.set 0 (.bool nP)).free 1; go_simp; have hE := (hE.set (p := ⟨pP, 0, none⟩) hqP (.bool nP)).set (p := ⟨pP, 1, none⟩) hqP (.slice aP qP cP); have hvm := (hvm.box hBP 0 (.bool nP)).box (hBP.set 0 (.bool nP)) 1 (.slice aP qP cP); have hvn := (hvn.box hBP 0 (.bool nP)).box (hBP.set 0 (.bool nP)) 1 (.slice aP qP cP); have hvS := (hvS.box hBP 0 (.bool nP)).box (hBP.set 0 (.bool nP)) 1 (.slice aP qP cP); have hvP := (hvP.box hBP 0 (.bool nP)).box (hBP.set 0 (.bool nP)) 1 (.slice aP qP cP); have hBS := (hBS.other (p := ⟨pP, 0, none⟩) (by dsimp only; omega) (.bool nP)).other (p := ⟨pP, 1, none⟩) (by dsimp only; omega) (.slice aP qP cP); have hBP := (hBP.set 0 (.bool nP)).set 1 (.slice aP qP cP); clear g0 g1 q0 q1; generalize ((y24).setCell ⟨pP, 0, none⟩ (.bool nP)).setCell ⟨pP, 1, none⟩ (.slice aP qP cP) = y25 at *
                  refine hK.out _ _ ?_ (fun hHeld2 => ?_)
                  · exact ⟨cell_ext hE dc0, cell_ext hE dc1, cell_ext hE dc2, cell_ext hE dc3, cell_ext hE dc4, cell_ext hE dc5⟩
                  clear hK K hHeld
                  have hHeld := hHeld2
                  clear hHeld2
                  (try simp only [Act.put, List.getElem_toArray, List.getElem_cons_succ, List.getElem_cons_zero, List.setIfInBounds_toArray, List.set_cons_zero, List.set_cons_succ])
                  refine wpAnyH_take (i := 15) (oi := _) (v := ?_) rfl (by kernel_rfl) (by kernel_rfl) (by kernel_rfl) (fun _ _ _ h => h) (Or.inl ⟨by rfl, ?_⟩) (by assumption) ?_
                  rotate_left
                  · (intro w hSw; (try dsimp only at hSw); (try go_simp); (try with_reducible rfl))
                  (try simp only [Act.put, List.getElem_toArray, List.getElem_cons_succ, List.getElem_cons_zero, List.setIfInBounds_toArray, List.set_cons_zero, List.set_cons_succ])
                  refine wpAnyH_done (by kernel_rfl) ?_ _
                  (go_wp2_with fail; go_meet; exact ⟨pS, pP, nS, aS, qS, cS, nP, aP, qP, cP, rfl, rfl, rfl, hBS, hBP, hvS, hvP, hE⟩)
                exact AllReadyH.nil
              exact AllReadyH.nil
            exact AllReadyH.nil
          refine AllReadyH.cons (o := _) rfl (fun K hK => ?_) ?_
          · go_simp
            have hy : Ext (y21) ((y21).alloc (.cells #[.bool false, .slice none 0 0] 24)) := Ext.alloc _ _; have hqS : x29.heap.size ≤ y21.heap.size := hE.size; have hE := hE.trans hy; have hdPS : pP < y21.heap.size := hBP.lt; have hvm := hvm.ext hy; have hvn := hvn.ext hy; have hBP := hBP.ext hy; have hBS : Blk ((y21).alloc (.cells #[.bool false, .slice none 0 0] 24)) y21.heap.size #[.bool false, .slice none 0 0] 24 := Blk.new0 _ _ _; generalize (y21).alloc (.cells #[.bool false, .slice none 0 0] 24) = y26 at *; generalize y21.heap.size = pS at *
            refine hK.out _ _ ?_ (fun hHeld2 => ?_)
            · exact ⟨cell_ext hE dc0, cell_ext hE dc1, cell_ext hE dc2, cell_ext hE dc3, cell_ext hE dc4, cell_ext hE dc5⟩
            clear hK K hHeld
            have hHeld := hHeld2
            clear hHeld2
            (try simp only [Act.put, List.getElem_toArray, List.getElem_cons_succ, List.getElem_cons_zero, List.setIfInBounds_toArray, List.set_cons_zero, List.set_cons_succ])
            refine wpAnyH_ready (rs := [6]) (by kernel_rfl) (by simp) ?_
            refine AllReadyH.cons (o := _) rfl (fun K hK => ?_) ?_
            · go_simp
              (with_reducible refine (div_any hvn (Vb.out.ext hE) Lj.out Lb.out HB0.out).mono ?_); rintro e y27 ⟨vS, vP, rfl, hvS, hvP, hy⟩; have hE := hE.trans hy; have hvm := hvm.ext hy; have hvn := hvn.ext hy; have hBP := hBP.ext hy; have hBS := hBS.ext hy; rw [HU.out.1] at hvS; rw [HU.out.2] at hvP; obtain ⟨nS, aS, qS, cS, rfl⟩ := hvS.form; obtain ⟨nP, aP, qP, cP, rfl⟩ := hvP.form
              refine hK.out _ _ ?_ (fun hHeld2 => ?_)
              · exact ⟨cell_ext hE dc0, cell_ext hE dc1, cell_ext hE dc2, cell_ext hE dc3, cell_ext hE dc4, cell_ext hE dc5⟩
              clear hK K hHeld
              have hHeld := hHeld2
              clear hHeld2
              (try simp only [Act.put, List.getElem_toArray, List.getElem_cons_succ, List.getElem_cons_zero, List.setIfInBounds_toArray, List.set_cons_zero, List.set_cons_succ])
              refine wpAnyH_take (i := 7) (oi := _) (v := ?_) rfl (by kernel_rfl) (by kernel_rfl) (by kernel_rfl) (fun _ _ _ h => h) (Or.inl ⟨by rfl, ?_⟩) (by assumption) ?_
              rotate_left
              · (intro w hSw; (try dsimp only at hSw); (try go_simp); (try with_reducible rfl))
              (try simp only [Act.put, List.getElem_toArray, List.getElem_cons_succ, List.getElem_cons_zero, List.setIfInBounds_toArray, List.set_cons_zero, List.set_cons_succ])
              refine wpAnyH_take (i := 8) (oi := _) (v := ?_) rfl (by kernel_rfl) (by kernel_rfl) (by kernel_rfl) (fun _ _ _ h => h) (Or.inl ⟨by rfl, ?_⟩) (by assumption) ?_
              rotate_left
              · (intro w hSw; (try dsimp only at hSw); (try go_simp); (try with_reducible rfl))
              (try simp only [Act.put, List.getElem_toArray, List.getElem_cons_succ, List.getElem_cons_zero, List.setIfInBounds_toArray, List.set_cons_zero, List.set_cons_succ])
              refine wpAnyH_take (i := 9) (oi := _) (v := ?_) rfl (by kernel_rfl) (by kernel_rfl) (by kernel_rfl) (fun _ _ _ h => h) (Or.inl ⟨by rfl, ?_⟩) (by assumption) ?_
              rotate_left
              · (intro w hSw; (try dsimp only at hSw); (try go_simp); (try with_reducible rfl))
              (try simp only [Act.put, List.getElem_toArray, List.getElem_cons_succ, List.getElem_cons_zero, List.setIfInBounds_toArray, List.set_cons_zero, List.set_cons_succ])
              refine wpAnyH_take (i := 10) (oi := _) (v := ?_) rfl (by kernel_rfl) (by kernel_rfl) (by kernel_rfl) (fun _ _ _ h => h) (Or.inl ⟨by rfl, ?_⟩) (by assumption) ?_
              rotate_left
              · (intro w hSw; (try dsimp only at hSw); (try go_simp); (try with_reducible rfl))
              (try simp only [Act.put, List.getElem_toArray, List.getElem_cons_succ, List.getElem_cons_zero, List.setIfInBounds_toArray, List.set_cons_zero, List.set_cons_succ])
              refine wpAnyH_ready (rs := [13]) (by kernel_rfl) (by simp) ?_
              refine AllReadyH.cons (o := _) rfl (fun K hK => ?_) ?_
              · go_simp
                have g0 := hBS.cell (i := 0) (v := .bool false) rfl; have g1 := (hBS.set 0 (.bool nS)).cell (i := 1) (v := .slice none 0 0) rfl; have q0 := hBS.free 0; have q1 := (hBS.set 0 (.bool nS)).free 1; go_simp; have hE := (hE.set (p := ⟨pS, 0, none⟩) hqS (.bool nS)).set (p := ⟨pS, 1, none⟩) hqS (.slice aS qS cS); have hvm := (hvm.box hBS 0 (.bool nS)).box (hBS.set 0 (.bool nS)) 1 (.slice aS qS cS); have hvn := (hvn.box hBS 0 (.bool nS)).box (hBS.set 0 (.bool nS)) 1 (.slice aS qS cS); have hBP := (hBP.other (p := ⟨pS, 0, none⟩) (by dsimp only; omega) (.bool nS)).other (p := ⟨pS, 1, none⟩) (by dsimp only; omega) (.slice aS qS cS); have hvS := (hvS.box hBS 0 (.bool nS)).box (hBS.set 0 (.bool nS)) 1 (.slice aS qS cS); have hvP := (hvP.box hBS 0 (.bool nS)).box (hBS.set 0 (.bool nS)) 1 (.slice aS qS cS); have hBS := (hBS.set 0 (.bool nS)).set 1 (.slice aS qS cS); clear g0 g1 q0 q1; generalize ((y27).setCell ⟨pS, 0, none⟩ (.bool nS)).setCell ⟨pS, 1, none⟩ (.slice aS qS cS) = y28 at *
                refine hK.out _ _ ?_ (fun hHeld2 => ?_)
                · exact ⟨cell_ext hE dc0, cell_ext hE dc1, cell_ext hE dc2, cell_ext hE dc3, cell_ext hE dc4, cell_ext hE dc5⟩
                clear hK K hHeld
                have hHeld := hHeld2
                clear hHeld2
                (try simp only [Act.put, List.getElem_toArray, List.getElem_cons_succ, List.getElem_cons_zero, List.setIfInBounds_toArray, List.set_cons_zero, List.set_cons_succ])
                refine wpAnyH_ready (rs := [14]) (by kernel_rfl) (by simp) ?_
                refine AllReadyH.cons (o := _) rfl (fun K hK => ?_) ?_
                · go_simp
                  have g0 := hBP.cell (i := 0) (v := .bool false) rfl; have g1 := (hBP.set 0 (.bool nP)).cell (i := 1) (v := .slice none 0 0) rfl; have q0 := hBP.free 0; have q1 := (hBP.set 0 (.bool nP)).free 1; go_simp; have hE := (hE.set (p := ⟨pP, 0, none⟩) hqP (.bool nP)).set (p := ⟨pP, 1, none⟩) hqP (.slice aP qP cP); have hvm := (hvm.box hBP 0 (.bool nP)).box (hBP.set 0 (.bool nP)) 1 (.slice aP qP cP); have hvn := (hvn.box hBP 0 (.bool nP)).box (hBP.set 0 (.bool nP)) 1 (.slice aP qP cP); have hBS := (hBS.other (p := ⟨pP, 0, none⟩) (by dsimp only; omega) (.bool nP)).other (p := ⟨pP, 1, none⟩) (by dsimp only; omega) (.slice aP qP cP); have hvS := (hvS.box hBP 0 (.bool nP)).box (hBP.set 0 (.bool nP)) 1 (.slice aP qP cP); have hvP := (hvP.box hBP 0 (.bool nP)).box (hBP.set 0 (.bool nP)) 1 (.slice aP qP cP); have hBP := (hBP.set 0 (.bool nP)).set 1 (.slice aP qP cP); clear g0 g1 q0 q1; generalize ((y28).setCell ⟨pP, 0, none⟩ (.bool nP)).setCell ⟨pP, 1, none⟩ (.slice aP qP cP) = y29 at *
                  refine hK.out _ _ ?_ (fun hHeld2 => ?_)
                  · exact ⟨cell_ext hE dc0, cell_ext hE dc1, cell_ext hE dc2, cell_ext hE dc3, cell_ext hE dc4, cell_ext hE dc5⟩
                  clear hK K hHeld
                  have hHeld := hHeld2
                  clear hHeld2
                  (try simp only [Act.put, List.getElem_toArray, List.getElem_cons_succ, List.getElem_cons_zero, List.setIfInBounds_toArray, List.set_cons_zero, List.set_cons_succ])
                  refine wpAnyH_take (i := 15) (oi := _) (v := ?_) rfl (by kernel_rfl) (by kernel_rfl) (by kernel_rfl) (fun _ _ _ h => h) (Or.inl ⟨by rfl, ?_⟩) (by assumption) ?_
                  rotate_left
                  · (intro w hSw; (try dsimp only at hSw); (try go_simp); (try with_reducible rfl))
                  (try simp only [Act.put, List.getElem_toArray, List.getElem_cons_succ, List.getElem_cons_zero, List.setIfInBounds_toArray, List.set_cons_zero, List.set_cons_succ])
                  refine wpAnyH_done (by kernel_rfl) ?_ _
                  (go_wp2_with fail; go_meet; exact ⟨pS, pP, nS, aS, qS, cS, nP, aP, qP, cP, rfl, rfl, rfl, hBS, hBP, hvS, hvP, hE⟩)
                exact AllReadyH.nil
              exact AllReadyH.nil
            exact AllReadyH.nil
          exact AllReadyH.nil
        exact AllReadyH.nil
      refine AllReadyH.cons (o := _) rfl (fun K hK => ?_) ?_
      · go_simp
        have hy : Ext (y1) ((y1).alloc (.cells #[.bool false, .slice none 0 0] 24)) := Ext.alloc _ _; have hqS : x29.heap.size ≤ y1.heap.size := hE.size; have hE := hE.trans hy; have hvm := hvm.ext hy; have hBS : Blk ((y1).alloc (.cells #[.bool false, .slice none 0 0] 24)) y1.heap.size #[.bool false, .slice none 0 0] 24 := Blk.new0 _ _ _; generalize (y1).alloc (.cells #[.bool false, .slice none 0 0] 24) = y30 at *; generalize y1.heap.size = pS at *
        refine hK.out _ _ ?_ (fun hHeld2 => ?_)
        · exact ⟨cell_ext hE dc0, cell_ext hE dc1, cell_ext hE dc2, cell_ext hE dc3, cell_ext hE dc4, cell_ext hE dc5⟩
        clear hK K hHeld
        have hHeld := hHeld2
        clear hHeld2
        (try simp only [Act.put, List.getElem_toArray, List.getElem_cons_succ, List.getElem_cons_zero, List.setIfInBounds_toArray, List.set_cons_zero, List.set_cons_succ])
        refine wpAnyH_ready (rs := [4, 12]) (by kernel_rfl) (by simp) ?_
        refine AllReadyH.cons (o := _) rfl (fun K hK => ?_) ?_
        · go_simp
          (with_reducible refine (calc_add pc _ (KC.out.ext hE) hvm (Vr.out.ext hE) Lk.out Lr.out Lj.out).mono ?_); rintro e y31 ⟨vn, rfl, hvn, hy⟩; have hE := hE.trans hy; have hvm := hvm.ext hy; have hBS := hBS.ext hy; have hvn := hvn.val
          refine hK.out _ _ ?_ (fun hHeld2 => ?_)
          · exact ⟨cell_ext hE dc0, cell_ext hE dc1, cell_ext hE dc2, cell_ext hE dc3, cell_ext hE dc4, cell_ext hE dc5⟩
          clear hK K hHeld
          have hHeld := hHeld2
          clear hHeld2
          (try simp only [Act.put, List.getElem_toArray, List.getElem_cons_succ, List.getElem_cons_zero, List.setIfInBounds_toArray, List.set_cons_zero, List.set_cons_succ])
          refine wpAnyH_ready (rs := [6, 12]) (by kernel_rfl) (by simp) ?_
          refine AllReadyH.cons (o := _) rfl (fun K hK => ?_) ?_
          · go_simp
            (with_reducible refine (div_any hvn (Vb.out.ext hE) Lj.out Lb.out HB0.out).mono ?_); rintro e y32 ⟨vS, vP, rfl, hvS, hvP, hy⟩; have hE := hE.trans hy; have hvm := hvm.ext hy; have hBS := hBS.ext hy; have hvn := hvn.ext hy; rw [HU.out.1] at hvS; rw [HU.out.2] at hvP; obtain ⟨nS, aS, qS, cS, rfl⟩ := hvS.form; obtain ⟨nP, aP, qP, cP, rfl⟩ := hvP.form
            refine hK.out _ _ ?_ (fun hHeld2 => ?_)
            · exact ⟨cell_ext hE dc0, cell_ext hE dc1, cell_ext hE dc2, cell_ext hE dc3, cell_ext hE dc4, cell_ext hE dc5⟩
            clear hK K hHeld
            have hHeld := hHeld2
            clear hHeld2
            (try simp only [Act.put, List.getElem_toArray, List.getElem_cons_succ, List.getElem_cons_zero, List.setIfInBounds_toArray, List.set_cons_zero, List.set_cons_succ])
            refine wpAnyH_take (i := 7) (oi := _) (v := ?_) rfl (by kernel_rfl) (by kernel_rfl) (by kernel_rfl) (fun _ _ _ h => h) (Or.inl ⟨by rfl, ?_⟩) (by assumption) ?_
            rotate_left
            · (intro w hSw; (try dsimp only at hSw); (try go_simp); (try with_reducible rfl))
            (try simp only [Act.put, List.getElem_toArray, List.getElem_cons_succ, List.getElem_cons_zero, List.setIfInBounds_toArray, List.set_cons_zero, List.set_cons_succ])
            refine wpAnyH_take (i := 8) (oi := _) (v := ?_) rfl (by kernel_rfl) (by kernel_rfl) (by kernel_rfl) (fun _ _ _ h => h) (Or.inl ⟨by rfl, ?_⟩) (by assumption) ?_
            rotate_left
            · (intro w hSw; (try dsimp only at hSw); (try go_simp); (try with_reducible rfl))
            (try simp only [Act.put, List.getElem_toArray, List.getElem_cons_succ, List.getElem_cons_zero, List.setIfInBounds_toArray, List.set_cons_zero, List.set_cons_succ])
            refine wpAnyH_take (i := 9) (oi := _) (v := ?_) rfl (by kernel_rfl) (by kernel_rfl) (by kernel_rfl) (fun _ _ _ h => h) (Or.inl ⟨by rfl, ?_⟩) (by assumption) ?_
            rotate_left
            · (intro w hSw; (try dsimp only at hSw); (try go_simp); (try with_reducible rfl))
            (try simp only [Act.put, List.getElem_toArray, List.getElem_cons_succ, List.getElem_cons_zero, List.setIfInBounds_toArray, List.set_cons_zero, List.set_cons_succ])
            refine wpAnyH_take (i := 10) (oi := _) (v := ?_) rfl (by kernel_rfl) (by kernel_rfl) (by kernel_rfl) (fun _ _ _ h => h) (Or.inl ⟨by rfl, ?_⟩) (by assumption) ?_
            rotate_left
            · (intro w hSw; (try dsimp only at hSw); (try go_simp); (try with_reducible rfl))
            (try simp only [Act.put, List.getElem_toArray, List.getElem_cons_succ, List.getElem_cons_zero, List.setIfInBounds_toArray, List.set_cons_zero, List.set_cons_succ])
            refine wpAnyH_ready (rs := [12]) (by kernel_rfl) (by simp) ?_
            refine AllReadyH.cons (o := _) rfl (fun K hK => ?_) ?_
            · go_simp
              have hy : Ext (y32) ((y32).alloc (.cells #[.bool false, .slice none 0 0] 24)) := Ext.alloc _ _; have hqP : x29.heap.size ≤ y32.heap.size := hE.size; have hE := hE.trans hy; have hdSP : pS < y32.heap.size := hBS.lt; have hvm := hvm.ext hy; have hBS := hBS.ext hy; have hvn := hvn.ext hy; have hvS := hvS.ext hy; have hvP := hvP.ext hy; have hBP : Blk ((y32).alloc (.cells #[.bool false, .slice none 0 0] 24)) y32.heap.size #[.bool false, .slice none 0 0] 24 := Blk.new0 _ _ _; generalize (y32).alloc (.cells #[.bool false, .slice none 0 0] 24) = y33 at *; generalize y32.heap.size = pP at *
              refine hK.out _ _ ?_ (fun hHeld2 => ?_)
              · exact ⟨cell_ext hE dc0, cell_ext hE dc1, cell_ext hE dc2, cell_ext hE dc3, cell_ext hE dc4, cell_ext hE dc5⟩
              clear hK K hHeld
              have hHeld := hHeld2
              clear hHeld2
              (try simp only [Act.put, List.getElem_toArray, List.getElem_cons_succ, List.getElem_cons_zero, List.setIfInBounds_toArray, List.set_cons_zero, List.set_cons_succ])
              refine wpAnyH_ready (rs := [13]) (by kernel_rfl) (by simp) ?_
              refine AllReadyH.cons (o := _) rfl (fun K hK => ?_) ?_
              · go_simp
                have g0 := hBS.cell (i := 0) (v := .bool false) rfl; have g1 := (hBS.set 0 (.bool nS)).cell (i := 1) (v := .slice none 0 0) rfl; have q0 := hBS.free 0; have q1 := (hBS.set 0 (.bool nS)).free 1; go_simp; have hE := (hE.set (p := ⟨pS, 0, none⟩) hqS (.bool nS)).set (p := ⟨pS, 1, none⟩) hqS (.slice aS qS cS); have hvm := (hvm.box hBS 0 (.bool nS)).box (hBS.set 0 (.bool nS)) 1 (.slice aS qS cS); have hvn := (hvn.box hBS 0 (.bool nS)).box (hBS.set 0 (.bool nS)) 1 (.slice aS qS cS); have hvS := (hvS.box hBS 0 (.bool nS)).box (hBS.set 0 (.bool nS)) 1 (.slice aS qS cS); have hvP := (hvP.box hBS 0 (.bool nS)).box (hBS.set 0 (.bool nS)) 1 (.slice aS qS cS); have hBP := (hBP.other (p := ⟨pS, 0, none⟩) (by dsimp only; omega) (.bool nS)).other (p := ⟨pS, 1, none⟩) (by dsimp only; omega) (.slice aS qS cS); have hBS := (hBS.set 0 (.bool nS)).set 1 (.slice aS qS cS); clear g0 g1 q0 q1; generalize ((y33).setCell ⟨pS, 0, none⟩ (.bool nS)).setCell ⟨pS, 1, none⟩ (.slice aS qS cS) = y34 at *
                refine hK.out _ _ ?_ (fun hHeld2 => ?_)
                · exact ⟨cell_ext hE dc0, cell_ext hE dc1, cell_ext hE dc2, cell_ext hE dc3, cell_ext hE dc4, cell_ext hE dc5⟩
                clear hK K hHeld
                have hHeld := hHeld2
                clear hHeld2
                (try simp only [Act.put, List.getElem_toArray, List.getElem_cons_succ, List.getElem_cons_zero, List.setIfInBounds_toArray, List.set_cons_zero, List.set_cons_succ])
                refine wpAnyH_ready (rs := [14]) (by kernel_rfl) (by simp) ?_
                refine AllReadyH.cons (o := _) rfl (fun K hK => ?_) ?_
                · go_simp
                  have g0 := hBP.cell (i := 0) (v := .bool false) rfl; have g1 := (hBP.set 0 (.bool nP)).cell (i := 1) (v := .slice none 0 0) rfl; have q0 := hBP.free 0; have q1 := (hBP.set 0 (.bool nP)).free 1; go_simp; have hE := (hE.set (p := ⟨pP, 0, none⟩) hqP (.bool nP)).set (p := ⟨pP, 1, none⟩) hqP (.slice aP qP cP); have hvm := (hvm.box hBP 0 (.bool nP)).box (hBP.set 0 (.bool nP)) 1 (.slice aP qP cP); have hBS := (hBS.other (p := ⟨pP, 0, none⟩) (by dsimp only; omega) (.bool nP)).other (p := ⟨pP, 1, none⟩) (by dsimp only; omega) (.slice aP qP cP); have hvn := (hvn.box hBP 0 (.bool nP)).box (hBP.set 0 (.bool nP)) 1 (.slice aP qP cP); have hvS := (hvS.box hBP 0 (.bool nP)).box (hBP.set 0 (.bool nP)) 1 (.slice aP qP cP); have hvP := (hvP.box hBP 0 (.bool nP)).box (hBP.set 0 (.bool nP)) 1 (.slice aP qP cP); have hBP := (hBP.set 0 (.bool nP)).set 1 (.slice aP qP cP); clear g0 g1 q0 q1; generalize ((y34).setCell ⟨pP, 0, none⟩ (.bool nP)).setCell ⟨pP, 1, none⟩ (.slice aP qP cP) = y35 at *
                  refine hK.out _ _ ?_ (fun hHeld2 => ?_)
                  · exact ⟨cell_ext hE dc0, cell_ext hE dc1, cell_ext hE dc2, cell_ext hE dc3, cell_ext hE dc4, cell_ext hE dc5⟩
                  clear hK K hHeld
                  have hHeld := hHeld2
                  clear hHeld2
                  (try simp only [Act.put, List.getElem_toArray, List.getElem_cons_succ, List.getElem_cons_zero, List.setIfInBounds_toArray, List.set_cons_zero, List.set_cons_succ])
                  refine wpAnyH_take (i := 15) (oi := _) (v := ?_) rfl (by kernel_rfl) (by kernel_rfl) (by kernel_rfl) (fun _ _ _ h => h) (Or.inl ⟨by rfl, ?_⟩) (by assumption) ?_
                  rotate_left
                  · (intro w hSw; (try dsimp only at hSw); (try go_simp); (try with_reducible rfl))
                  (try simp only [Act.put, List.getElem_toArray, List.getElem_cons_succ, List.getElem_cons_zero, List.setIfInBounds_toArray, List.set_cons_zero, List.set_cons_succ])
                  refine wpAnyH_done (by kernel_rfl) ?_ _
                  (go_wp2_with fail; go_meet; exact ⟨pS, pP, nS, aS, qS, cS, nP, aP, qP, cP, rfl, rfl, rfl, hBS, hBP, hvS, hvP, hE⟩)
                exact AllReadyH.nil
              exact AllReadyH.nil
            exact AllReadyH.nil
          refine AllReadyH.cons (o := _) rfl (fun K hK => ?_) ?_
          · go_simp
            have hy : Ext (y31) ((y31).alloc (.cells #[.bool false, .slice none 0 0] 24)) := Ext.alloc _ _; have hqP : x29.heap.size ≤ y31.heap.size := hE.size; have hE := hE.trans hy; have hdSP : pS < y31.heap.size := hBS.lt; have hvm := hvm.ext hy; have hBS := hBS.ext hy; have hvn := hvn.ext hy; have hBP : Blk ((y31).alloc (.cells #[.bool false, .slice none 0 0] 24)) y31.heap.size #[.bool false, .slice none 0 0] 24 := Blk.new0 _ _ _; generalize (y31).alloc (.cells #[.bool false, .slice none 0 0] 24) = y36 at *; generalize y31.heap.size = pP at *
            refine hK.out _ _ ?_ (fun hHeld2 => ?_)
            · exact ⟨cell_ext hE dc0, cell_ext hE dc1, cell_ext hE dc2, cell_ext hE dc3, cell_ext hE dc4, cell_ext hE dc5⟩
            clear hK K hHeld
            have hHeld := hHeld2
            clear hHeld2
            (try simp only [Act.put, List.getElem_toArray, List.getElem_cons_succ, List.getElem_cons_zero, List.setIfInBounds_toArray, List.set_cons_zero, List.set_cons_succ])
            refine wpAnyH_ready (rs := [6]) (by kernel_rfl) (by simp) ?_
            refine AllReadyH.cons (o := _) rfl (fun K hK => ?_) ?_
            · go_simp
              (with_reducible refine (div_any hvn (Vb.out.ext hE) Lj.out Lb.out HB0.out).mono ?_); rintro e y37 ⟨vS, vP, rfl, hvS, hvP, hy⟩; have hE := hE.trans hy; have hvm := hvm.ext hy; have hBS := hBS.ext hy; have hvn := hvn.ext hy; have hBP := hBP.ext hy; rw [HU.out.1] at hvS; rw [HU.out.2] at hvP; obtain ⟨nS, aS, qS, cS, rfl⟩ := hvS.form; obtain ⟨nP, aP, qP, cP, rfl⟩ := hvP.form
              refine hK.out _ _ ?_ (fun hHeld2 => ?_)
              · exact ⟨cell_ext hE dc0, cell_ext hE dc1, cell_ext hE dc2, cell_ext hE dc3, cell_ext hE dc4, cell_ext hE dc5⟩
              clear hK K hHeld
              have hHeld := hHeld2
              clear hHeld2
              (try simp only [Act.put, List.getElem_toArray, List.getElem_cons_succ, List.getElem_cons_zero, List.setIfInBounds_toArray, List.set_cons_zero, List.set_cons_succ])
              refine wpAnyH_take (i := 7) (oi := _) (v := ?_) rfl (by kernel_rfl) (by kernel_rfl) (by kernel_rfl) (fun _ _ _ h => h) (Or.inl ⟨by rfl, ?_⟩) (by assumption) ?_
              rotate_left
              · (intro w hSw; (try dsimp only at hSw); (try go_simp); (try with_reducible rfl))
              (try simp only [Act.put, List.getElem_toArray, List.getElem_cons_succ, List.getElem_cons_zero, List.setIfInBounds_toArray, List.set_cons_zero, List.set_cons_succ])
              refine wpAnyH_take (i := 8) (oi := _) (v := ?_) rfl (by kernel_rfl) (by kernel_rfl) (by kernel_rfl) (fun _ _ _ h => h) (Or.inl ⟨by rfl, ?_⟩) (by assumption) ?_
              rotate_left
              · (intro w hSw; (try dsimp only at hSw); (try go_simp); (try with_reducible rfl))
              (try simp only [Act.put, List.getElem_toArray, List.getElem_cons_succ, List.getElem_cons_zero, List.setIfInBounds_toArray, List.set_cons_zero, List.set_cons_succ])
              refine wpAnyH_take (i := 9) (oi := _) (v := ?_) rfl (by kernel_rfl) (by kernel_rfl) (by kernel_rfl) (fun _ _ _ h => h) (Or.inl ⟨by rfl, ?_⟩) (by assumption) ?_
              rotate_left
              · (intro w hSw; (try dsimp only at hSw); (try go_simp); (try with_reducible rfl))
              (try simp only [Act.put, List.getElem_toArray, List.getElem_cons_succ, List.getElem_cons_zero, List.setIfInBounds_toArray, List.set_cons_zero, List.set_cons_succ])
              refine wpAnyH_take (i := 10) (oi := _) (v := ?_) rfl (by kernel_rfl) (by kernel_rfl) (by kernel_rfl) (fun _ _ _ h => h) (Or.inl ⟨by rfl, ?_⟩) (by assumption) ?_
              rotate_left
              · (intro w hSw; (try dsimp only at hSw); (try go_simp); (try with_reducible rfl))
              (try simp only [Act.put, List.getElem_toArray, List.getElem_cons_succ, List.getElem_cons_zero, List.setIfInBounds_toArray, List.set_cons_zero, List.set_cons_succ])
              refine wpAnyH_ready (rs := [13]) (by kernel_rfl) (by simp) ?_
              refine AllReadyH.cons (o := _) rfl (fun K hK => ?_) ?_
              · go_simp
                have g0 := hBS.cell (i := 0) (v := .bool false) rfl; have g1 := (hBS.set 0 (.bool nS)).cell (i := 1) (v := .slice none 0 0) rfl; have q0 := hBS.free 0; have q1 := (hBS.set 0 (.bool nS)).free 1; go_simp; have hE := (hE.set (p := ⟨pS, 0, none⟩) hqS (.bool nS)).set (p := ⟨pS, 1, none⟩) hqS (.slice aS qS cS); have hvm := (hvm.box hBS 0 (.bool nS)).box (hBS.set 0 (.bool nS)) 1 (.slice aS qS cS); have hvn := (hvn.box hBS 0 (.bool nS)).box (hBS.set 0 (.bool nS)) 1 (.slice aS qS cS); have hBP := (hBP.other (p := ⟨pS, 0, none⟩) (by dsimp only; omega) (.bool nS)).other (p := ⟨pS, 1, none⟩) (by dsimp only; omega) (.slice aS qS cS); have hvS := (hvS.box hBS 0 (.bool nS)).box (hBS.set 0 (.bool nS)) 1 (.slice aS qS cS); have hvP := (hvP.box hBS 0 (.bool nS)).box (hBS.set 0 (.bool nS)) 1 (.slice aS qS cS); have hBS := (hBS.set 0 (.bool nS)).set 1 (.slice aS qS cS); clear g0 g1 q0 q1; generalize ((y37).setCell ⟨pS, 0, none⟩ (.bool nS)).setCell ⟨pS, 1, none⟩ (.slice aS qS cS) = y38 at *
                refine hK.out _ _ ?_ (fun hHeld2 => ?_)
                · exact ⟨cell_ext hE dc0, cell_ext hE dc1, cell_ext hE dc2, cell_ext hE dc3, cell_ext hE dc4, cell_ext hE dc5⟩
                clear hK K hHeld
                have hHeld := hHeld2
                clear hHeld2
                (try simp only [Act.put, List.getElem_toArray, List.getElem_cons_succ, List.getElem_cons_zero, List.setIfInBounds_toArray, List.set_cons_zero, List.set_cons_succ])
                refine wpAnyH_ready (rs := [14]) (by kernel_rfl) (by simp) ?_
                refine AllReadyH.cons (o := _) rfl (fun K hK => ?_) ?_
                · go_simp
                  have g0 := hBP.cell (i := 0) (v := .bool false) rfl; have g1 := (hBP.set 0 (.bool nP)).cell (i := 1) (v := .slice none 0 0) rfl; have q0 := hBP.free 0; have q1 := (hBP.set 0 (.bool nP)).free 1; go_simp; have hE := (hE.set (p := ⟨pP, 0, none⟩) hqP (.bool nP)).set (p := ⟨pP, 1, none⟩) hqP (.slice aP qP cP); have hvm := (hvm.box hBP 0 (.bool nP)).box (hBP.set 0 (.bool nP)) 1 (.slice aP qP cP); have hBS := (hBS.other (p := ⟨pP, 0, none⟩) (by dsimp only; omega) (.bool nP)).other (p := ⟨pP, 1, none⟩) (by dsimp only; omega) (.slice aP qP cP); have hvn := (hvn.box hBP 0 (.bool nP)).box (hBP.set 0 (.bool nP)) 1 (.slice aP qP cP); have hvS := (hvS.box hBP 0 (.bool nP)).box (hBP.set 0 (.bool nP)) 1 (.slice aP qP cP); have hvP := (hvP.box hBP 0 (.bool nP)).box (hBP.set 0 (.bool nP)) 1 (.slice aP qP cP); have hBP := (hBP.set 0 (.bool nP)).set 1 (.slice aP qP cP); clear g0 g1 q0 q1; generalize ((y38).setCell ⟨pP, 0, none⟩ (.bool nP)).setCell ⟨pP, 1, none⟩ (.slice aP qP cP) = y39 at *
                  refine hK.out _ _ ?_ (fun hHeld2 => ?_)
                  · exact ⟨cell_ext hE dc0, cell_ext hE dc1, cell_ext hE dc2, cell_ext hE dc3, cell_ext hE dc4, cell_ext hE dc5⟩
                  clear hK K hHeld
                  have hHeld := hHeld2
                  clear hHeld2
                  (try simp only [Act.put, List.getElem_toArray, List.getElem_cons_succ, List.getElem_cons_zero, List.setIfInBounds_toArray, List.set_cons_zero, List.set_cons_succ])
                  refine wpAnyH_take (i := 15) (oi := _) (v := ?_) rfl (by kernel_rfl) (by kernel_rfl) (by kernel_rfl) (fun _ _ _ h => h) (Or.inl ⟨by rfl, ?_⟩) (by assumption) ?_
                  rotate_left
                  · (intro w hSw; (try dsimp only at hSw); (try go_simp); (try with_reducible rfl))
                  (try simp only [Act.put, List.getElem_toArray, List.getElem_cons_succ, List.getElem_cons_zero, List.setIfInBounds_toArray, List.set_cons_zero, List.set_cons_succ])
                  refine wpAnyH_done (by kernel_rfl) ?_ _
                  (go_wp2_with fail; go_meet; exact ⟨pS, pP, nS, aS, qS, cS, nP, aP, qP, cP, rfl, rfl, rfl, hBS, hBP, hvS, hvP, hE⟩)
                exact AllReadyH.nil
              exact AllReadyH.nil
            exact AllReadyH.nil
          exact AllReadyH.nil
        refine AllReadyH.cons (o := _) rfl (fun K hK => ?_) ?_
        · go_simp
          have hy : Ext (y30) ((y30).alloc (.cells #[.bool false, .slice none 0 0] 24)) := Ext.alloc _ _; have hqP : x29.heap.size ≤ y30.heap.size := hE.size; have hE := hE.trans hy; have hdSP : pS < y30.heap.size := hBS.lt; have hvm := hvm.ext hy; have hBS := hBS.ext hy; have hBP : Blk ((y30).alloc (.cells #[.bool false, .slice none 0 0] 24)) y30.heap.size #[.bool false, .slice none 0 0] 24 := Blk.new0 _ _ _; generalize (y30).alloc (.cells #[.bool false, .slice none 0 0] 24) = y40 at *; generalize y30.heap.size = pP at *
          refine hK.out _ _ ?_ (fun hHeld2 => ?_)
          · exact ⟨cell_ext hE dc0, cell_ext hE dc1, cell_ext hE dc2, cell_ext hE dc3, cell_ext hE dc4, cell_ext hE dc5⟩
          clear hK K hHeld
          have hHeld := hHeld2
          clear hHeld2
          (try simp only [Act.put, List.getElem_toArray, List.getElem_cons_succ, List.getElem_cons_zero, List.setIfInBounds_toArray, List.set_cons_zero, List.set_cons_succ])
          refine wpAnyH_ready (rs := [4]) (by kernel_rfl) (by simp) ?_
          refine AllReadyH.cons (o := _) rfl (fun K hK => ?_) ?_
          · go_simp
            (with_reducible refine (calc_add pc _ (KC.out.ext hE) hvm (Vr.out.ext hE) Lk.out Lr.out Lj.out).mono ?_); rintro e y41 ⟨vn, rfl, hvn, hy⟩; have hE := hE.trans hy; have hvm := hvm.ext hy; have hBS := hBS.ext hy; have hBP := hBP.ext hy; have hvn := hvn.val
            refine hK.out _ _ ?_ (fun hHeld2 => ?_)
            · exact ⟨cell_ext hE dc0, cell_ext hE dc1, cell_ext hE dc2, cell_ext hE dc3, cell_ext hE dc4, cell_ext hE dc5⟩
            clear hK K hHeld
            have hHeld := hHeld2
            clear hHeld2
            (try simp only [Act.put, List.getElem_toArray, List.getElem_cons_succ, List.getElem_cons_zero, List.setIfInBounds_toArray, List.set_cons_zero, List.set_cons_succ])
            refine wpAnyH_ready (rs := [6]) (by kernel_rfl) (by simp) ?_
            refine AllReadyH.cons (o := _) rfl (fun K hK => ?_) ?_
            · go_simp
              (with_reducible refine (div_any hvn (Vb.out.ext hE) Lj.out Lb.out HB0.out).mono ?_); rintro e y42 ⟨vS, vP, rfl, hvS, hvP, hy⟩; have hE := hE.trans hy; have hvm := hvm.ext hy; have hBS := hBS.ext hy; have hBP := hBP.ext hy; have hvn := hvn.ext hy; rw [HU.out.1] at hvS; rw [HU.out.2] at hvP; obtain ⟨nS, aS, qS, cS, rfl⟩ := hvS.form; obtain ⟨nP, aP, qP, cP, rfl⟩ := hvP.form
              refine hK.out _ _ ?_ (fun hHeld2 => ?_)
              · exact ⟨cell_ext hE dc0, cell_ext hE dc1, cell_ext hE dc2, cell_ext hE dc3, cell_ext hE dc4, cell_ext hE dc5⟩
              clear hK K hHeld
              have hHeld := hHeld2
              clear hHeld2
              (try simp only [Act.put, List.getElem_toArray, List.getElem_cons_succ, List.getElem_cons_zero, List.setIfInBounds_toArray, List.set_cons_zero, List.set_cons_succ])
              refine wpAnyH_take (i := 7) (oi := _) (v := ?_) rfl (by kernel_rfl) (by kernel_rfl) (by kernel_rfl) (fun _ _ _ h => h) (Or.inl ⟨by rfl, ?_⟩) (by assumption) ?_
              rotate_left
              · (intro w hSw; (try dsimp only at hSw); (try go_simp); (try with_reducible rfl))
              (try simp only [Act.put, List.getElem_toArray, List.getElem_cons_succ, List.getElem_cons_zero, List.setIfInBounds_toArray, List.set_cons_zero, List.set_cons_succ])
              refine wpAnyH_take (i := 8) (oi := _) (v := ?_) rfl (by kernel_rfl) (by kernel_rfl) (by kernel_rfl) (fun _ _ _ h => h) (Or.inl ⟨by rfl, ?_⟩) (by assumption) ?_
              rotate_left
              · (intro w hSw; (try dsimp only at hSw); (try go_simp); (try with_reducible rfl))
              (try simp only [Act.put, List.getElem_toArray, List.getElem_cons_succ, List.getElem_cons_zero, List.setIfInBounds_toArray, List.set_cons_zero, List.set_cons_succ])
              refine wpAnyH_take (i := 9) (oi := _) (v := ?_) rfl (by kernel_rfl) (by kernel_rfl) (by kernel_rfl) (fun _ _ _ h => h) (Or.inl ⟨by rfl, ?_⟩) (by assumption) ?_
              rotate_left
              · (intro w hSw; (try dsimp only at hSw); (try go_simp); (try with_reducible rfl))
              (try simp only [Act.put, List.getElem_toArray, List.getElem_cons_succ, List.getElem_cons_zero, List.setIfInBounds_toArray, List.set_cons_zero, List.set_cons_succ])
              refine wpAnyH_take (i := 10) (oi := _) (v := ?_) rfl (by kernel_rfl) (by kernel_rfl) (by kernel_rfl) (fun _ _ _ h => h) (Or.inl ⟨by rfl, ?_⟩) (by assumption) ?_
              rotate_left
              · (intro w hSw; (try dsimp only at hSw); (try go_simp); (try with_reducible rfl))
              (try simp only [Act.put, List.getElem_toArray, List.getElem_cons_succ, List.getElem_cons_zero, List.setIfInBounds_toArray, List.set_cons_zero, List.set_cons_succ])
              refine wpAnyH_ready (rs := [13]) (by kernel_rfl) (by simp) ?_
              refine AllReadyH.cons (o := _) rfl (fun K hK => ?_) ?_
              · go_simp
                have g0 := hBS.cell (i := 0) (v := .bool false) rfl; have g1 := (hBS.set 0 (.bool nS)).cell (i := 1) (v := .slice none 0 0) rfl; have q0 := hBS.free 0; have q1 := (hBS.set 0 (.bool nS)).free 1; go_simp; have hE := (hE.set (p := ⟨pS, 0, none⟩) hqS (.bool nS)).set (p := ⟨pS, 1, none⟩) hqS (.slice aS qS cS); have hvm := (hvm.box hBS 0 (.bool nS)).box (hBS.set 0 (.bool nS)) 1 (.slice aS qS cS); have hBP := (hBP.other (p := ⟨pS, 0, none⟩) (by dsimp only; omega) (.bool nS)).other (p := ⟨pS, 1, none⟩) (by dsimp only; omega) (.slice aS qS cS); have hvn := (hvn.box hBS 0 (.bool nS)).box (hBS.set 0 (.bool nS)) 1 (.slice aS qS cS); have hvS := (hvS.box hBS 0 (.bool nS)).box (hBS.set 0 (.bool nS)) 1 (.slice aS qS cS); have hvP := (hvP.box hBS 0 (.bool nS)).box (hBS.set 0 (.bool nS)) 1 (.slice aS qS cS); have hBS := (hBS.set 0 (.bool nS)).set 1 (.slice aS qS cS); clear g0 g1 q0 q1; generalize ((y42).setCell ⟨pS, 0, none⟩ (.bool nS)).setCell ⟨pS, 1, none⟩ (.slice aS qS cS) = y43 at *
                refine hK.out _ _ ?_ (fun hHeld2 => ?_)
                · exact ⟨cell_ext hE dc0, cell_ext hE dc1, cell_ext hE dc2, cell_ext hE dc3, cell_ext hE dc4, cell_ext hE dc5⟩
                clear hK K hHeld
                have hHeld := hHeld2
                clear hHeld2
                (try simp only [Act.put, List.getElem_toArray, List.getElem_cons_succ, List.getElem_cons_zero, List.setIfInBounds_toArray, List.set_cons_zero, List.set_cons_succ])
                refine wpAnyH_ready (rs := [14]) (by kernel_rfl) (by simp) ?_
                refine AllReadyH.cons (o := _) rfl (fun K hK => ?_) ?_
                · go_simp
                  have g0 := hBP.cell (i := 0) (v := .bool false) rfl; have g1 := (hBP.set 0 (.bool nP)).cell (i := 1) (v := .slice none 0 0) rfl; have q0 := hBP.free 0; have q1 := (hBP.set 0 (.bool nP)).free 1; go_simp; have hE := (hE.set (p := ⟨pP, 0, none⟩) hqP (.bool nP)).set (p := ⟨pP, 1, none⟩) hqP (.slice aP qP cP); have hvm := (hvm.box hBP 0 (.bool nP)).box (hBP.set 0 (.bool nP)) 1 (.slice aP qP cP); have hBS := (hBS.other (p := ⟨pP, 0, none⟩) (by dsimp only; omega) (.bool nP)).other (p := ⟨pP, 1, none⟩) (by dsimp only; omega) (.slice aP qP cP); have hvn := (hvn.box hBP 0 (.bool nP)).box (hBP.set 0 (.bool nP)) 1 (.slice aP qP cP); have hvS := (hvS.box hBP 0 (.bool nP)).box (hBP.set 0 (.bool nP)) 1 (.slice aP qP cP); have hvP := (hvP.box hBP 0 (.bool nP)).box (hBP.set 0 (.bool nP)) 1 (.slice aP qP cP); have hBP := (hBP.set 0 (.bool nP)).set 1 (.slice aP qP cP); clear g0 g1 q0 q1; generalize ((y43).setCell ⟨pP, 0, none⟩ (.bool nP)).setCell ⟨pP, 1, none⟩ (.slice aP qP cP) = y44 at *
                  refine hK.out _ _ ?_ (fun hHeld2 => ?_)
                  · exact ⟨cell_ext hE dc0, cell_ext hE dc1, cell_ext hE dc2, cell_ext hE dc3, cell_ext hE dc4, cell_ext hE dc5⟩
                  clear hK K hHeld
                  have hHeld := hHeld2
                  clear hHeld2
                  (try simp only [Act.put, List.getElem_toArray, List.getElem_cons_succ, List.getElem_cons_zero, List.setIfInBounds_toArray, List.set_cons_zero, List.set_cons_succ])
                  refine wpAnyH_take (i := 15) (oi := _) (v := ?_) rfl (by kernel_rfl) (by kernel_rfl) (by kernel_rfl) (fun _ _ _ h => h) (Or.inl ⟨by rfl, ?_⟩) (by assumption) ?_
                  rotate_left
                  · (intro w hSw; (try dsimp only at hSw); (try go_simp); (try with_reducible rfl))
                  (try simp only [Act.put, List.getElem_toArray, List.getElem_cons_succ, List.getElem_cons_zero, List.setIfInBounds_toArray, List.set_cons_zero, List.set_cons_succ])
                  refine wpAnyH_done (by kernel_rfl) ?_ _
                  (go_wp2_with fail; go_meet; exact ⟨pS, pP, nS, aS, qS, cS, nP, aP, qP, cP, rfl, rfl, rfl, hBS, hBP, hvS, hvP, hE⟩)
                exact AllReadyH.nil
              exact AllReadyH.nil
            exact AllReadyH.nil
          exact AllReadyH.nil
        exact AllReadyH.nil
      refine AllReadyH.cons (o := _) rfl (fun K hK => ?_) ?_
      · go_simp
        have hy : Ext (y1) ((y1).alloc (.cells #[.bool false, .slice none 0 0] 24)) := Ext.alloc _ _; have hqP : x29.heap.size ≤ y1.heap.size := hE.size; have hE := hE.trans hy; have hvm := hvm.ext hy; have hBP : Blk ((y1).alloc (.cells #[.bool false, .slice none 0 0] 24)) y1.heap.size #[.bool false, .slice none 0 0] 24 := Blk.new0 _ _ _; generalize (y1).alloc (.cells #[.bool false, .slice none 0 0] 24) = y45 at *; generalize y1.heap.size = pP at *
        refine hK.out _ _ ?_ (fun hHeld2 => ?_)
        · exact ⟨cell_ext hE dc0, cell_ext hE dc1, cell_ext hE dc2, cell_ext hE dc3, cell_ext hE dc4, cell_ext hE dc5⟩
        clear hK K hHeld
        have hHeld := hHeld2
        clear hHeld2
        (try simp only [Act.put, List.getElem_toArray, List.getElem_cons_succ, List.getElem_cons_zero, List.setIfInBounds_toArray, List.set_cons_zero, List.set_cons_succ])
        refine wpAnyH_ready (rs := [4, 11]) (by kernel_rfl) (by simp) ?_
        refine AllReadyH.cons (o := _) rfl (fun K hK => ?_) ?_
        · go_simp
          (with_reducible refine (calc_add pc _ (KC.out.ext hE) hvm (Vr.out.ext hE) Lk.out Lr.out Lj.out).mono ?_); rintro e y46 ⟨vn, rfl, hvn, hy⟩; have hE := hE.trans hy; have hvm := hvm.ext hy; have hBP := hBP.ext hy; have hvn := hvn.val
          refine hK.out _ _ ?_ (fun hHeld2 => ?_)
          · exact ⟨cell_ext hE dc0, cell_ext hE dc1, cell_ext hE dc2, cell_ext hE dc3, cell_ext hE dc4, cell_ext hE dc5⟩
          clear hK K hHeld
          have hHeld := hHeld2
          clear hHeld2
          (try simp only [Act.put, List.getElem_toArray, List.getElem_cons_succ, List.getElem_cons_zero, List.setIfInBounds_toArray, List.set_cons_zero, List.set_cons_succ])
          refine wpAnyH_ready (rs := [6, 11]) (by kernel_rfl) (by simp) ?_
          refine AllReadyH.cons (o := _) rfl (fun K hK => ?_) ?_
          · go_simp
            (with_reducible refine (div_any hvn (Vb.out.ext hE) Lj.out Lb.out HB0.out).mono ?_); rintro e y47 ⟨vS, vP, rfl, hvS, hvP, hy⟩; have hE := hE.trans hy; have hvm := hvm.ext hy; have hBP := hBP.ext hy; have hvn := hvn.ext hy; rw [HU.out.1] at hvS; rw [HU.out.2] at hvP; obtain ⟨nS, aS, qS, cS, rfl⟩ := hvS.form; obtain ⟨nP, aP, qP, cP, rfl⟩ := hvP.form
            refine hK.out _ _ ?_ (fun hHeld2 => ?_)
            · exact ⟨cell_ext hE dc0, cell_ext hE dc1, cell_ext hE dc2, cell_ext hE dc3, cell_ext hE dc4, cell_ext hE dc5⟩
            clear hK K hHeld
            have hHeld := hHeld2
            clear hHeld2
            (try simp only [Act.put, List.getElem_toArray, List.getElem_cons_succ, List.getElem_cons_zero, List.setIfInBounds_toArray, List.set_cons_zero, List.set_cons_succ])
            refine wpAnyH_take (i := 7) (oi := _) (v := ?_) rfl (by kernel_rfl) (by kernel_rfl) (by kernel_rfl) (fun _ _ _ h => h) (Or.inl ⟨by rfl, ?_⟩) (by assumption) ?_
            rotate_left
            · (intro w hSw; (try dsimp only at hSw); (try go_simp); (try with_reducible rfl))
            (try simp only [Act.put, List.getElem_toArray, List.getElem_cons_succ, List.getElem_cons_zero, List.setIfInBounds_toArray, List.set_cons_zero, List.set_cons_succ])
            refine wpAnyH_take (i := 8) (oi := _) (v := ?_) rfl (by kernel_rfl) (by kernel_rfl) (by kernel_rfl) (fun _ _ _ h => h) (Or.inl ⟨by rfl, ?_⟩) (by assumption) ?_
            rotate_left
            · (intro w hSw; (try dsimp only at hSw); (try go_simp); (try with_reducible rfl))
            (try simp only [Act.put, List.getElem_toArray, List.getElem_cons_succ, List.getElem_cons_zero, List.setIfInBounds_toArray, List.set_cons_zero, List.set_cons_succ])
            refine wpAnyH_take (i := 9) (oi := _) (v := ?_) rfl (by kernel_rfl) (by kernel_rfl) (by kernel_rfl) (fun _ _ _ h => h) (Or.inl ⟨by rfl, ?_⟩) (by assumption) ?_
            rotate_left
            · (intro w hSw; (try dsimp only at hSw); (try go_simp); (try with_reducible rfl))
            (try simp only [Act.put, List.getElem_toArray, List.getElem_cons_succ, List.getElem_cons_zero, List.setIfInBounds_toArray, List.set_cons_zero, List.set_cons_succ])
            refine wpAnyH_take (i := 10) (oi := _) (v := ?_) rfl (by kernel_rfl) (by kernel_rfl) (by kernel_rfl) (fun _ _ _ h => h) (Or.inl ⟨by rfl, ?_⟩) (by assumption) ?_
            rotate_left
            · (intro w hSw; (try dsimp only at hSw); (try go_simp); (try with_reducible rfl))
            (try simp only [Act.put, List.getElem_toArray, List.getElem_cons_succ, List.getElem_cons_zero, List.setIfInBounds_toArray, List.set_cons_zero, List.set_cons_succ])
            refine wpAnyH_ready (rs := [11]) (by kernel_rfl) (by simp) ?_
            refine AllReadyH.cons (o := _) rfl (fun K hK => ?_) ?_
            · go_simp
              have hy : Ext (y47) ((y47).alloc (.cells #[.bool false, .slice none 0 0] 24)) := Ext.alloc _ _; have hqS : x29.heap.size ≤ y47.heap.size := hE.size; have hE := hE.trans hy; have hdPS : pP < y47.heap.size := hBP.lt; have hvm := hvm.ext hy; have hBP := hBP.ext hy; have hvn := hvn.ext hy; have hvS := hvS.ext hy; have hvP := hvP.ext hy; have hBS : Blk ((y47).alloc (.cells #[.bool false, .slice none 0 0] 24)) y47.heap.size #[.bool false, .slice none 0 0] 24 := Blk.new0 _ _ _; generalize (y47).alloc (.cells #[.bool false, .slice none 0 0] 24) = y48 at *; generalize y47.heap.size = pS at *
              refine hK.out _ _ ?_ (fun hHeld2 => ?_)
              · exact ⟨cell_ext hE dc0, cell_ext hE dc1, cell_ext hE dc2, cell_ext hE dc3, cell_ext hE dc4, cell_ext hE dc5⟩
              clear hK K hHeld
              have hHeld := hHeld2
              clear hHeld2
              (try simp only [Act.put, List.getElem_toArray, List.getElem_cons_succ, List.getElem_cons_zero, List.setIfInBounds_toArray, List.set_cons_zero, List.set_cons_succ])
              refine wpAnyH_ready (rs := [13]) (by kernel_rfl) (by simp) ?_
              refine AllReadyH.cons (o := _) rfl (fun K hK => ?_) ?_
              · go_simp
                have g0 := hBS.cell (i := 0) (v := .bool false) rfl; have g1 := (hBS.set 0 (.bool nS)).cell (i := 1) (v := .slice none 0 0) rfl; have q0 := hBS.free 0; have q1 := (hBS.set 0 (.bool nS)).free 1; go_simp; have hE := (hE.set (p := ⟨pS, 0, none⟩) hqS (.bool nS)).set (p := ⟨pS, 1, none⟩) hqS (.slice aS qS cS); have hvm := (hvm.box hBS 0 (.bool nS)).box (hBS.set 0 (.bool nS)) 1 (.slice aS qS cS); have hBP := (hBP.other (p := ⟨pS, 0, none⟩) (by dsimp only; omega) (.bool nS)).other (p := ⟨pS, 1, none⟩) (by dsimp only; omega) (.slice aS qS cS); have hvn := (hvn.box hBS 0 (.bool nS)).box (hBS.set 0 (.bool nS)) 1 (.slice aS qS cS); have hvS := (hvS.box hBS 0 (.bool nS)).box (hBS.set 0 (.bool nS)) 1 (.slice aS qS cS); have hvP := (hvP.box hBS 0 (.bool nS)).box (hBS.set 0 (.bool nS)) 1 (.slice aS qS cS); have hBS := (hBS.set 0 (.bool nS)).set 1 (.slice aS qS cS); clear g0 g1 q0 q1; generalize ((y48).setCell ⟨pS, 0, none⟩ (.bool nS)).setCell ⟨pS, 1, none⟩ (.slice aS qS cS) = y49 at *
                refine hK.out _ _ ?_ (fun hHeld2 => ?_)
                · exact ⟨cell_ext hE dc0, cell_ext hE dc1, cell_ext hE dc2, cell_ext hE dc3, cell_ext hE dc4, cell_ext hE dc5⟩
                clear hK K hHeld
                have hHeld := hHeld2
                clear hHeld2
                (try simp only [Act.put, List.getElem_toArray, List.getElem_cons_succ, List.getElem_cons_zero, List.setIfInBounds_toArray, List.set_cons_zero, List.set_cons_succ])
                refine wpAnyH_ready (rs := [14]) (by kernel_rfl) (by simp) ?_
                refine AllReadyH.cons (o := _) rfl (fun K hK => ?_) ?_
                · go_simp
                  have g0 := hBP.cell (i := 0) (v := .bool false) rfl; have g1 := (hBP.set 0 (.bool nP)).cell (i := 1) (v := .slice none 0 0) rfl; have q0 := hBP.free 0; have q1 := (hBP.set 0 (.bool nP)).free 1; go_simp; have hE := (hE.set (p := ⟨pP, 0, none⟩) hqP (.bool nP)).set (p := ⟨pP, 1, none⟩) hqP (.slice aP qP cP); have hvm := (hvm.box hBP 0 (.bool nP)).box (hBP.set 0 (.bool nP)) 1 (.slice aP qP cP); have hvn := (hvn.box hBP 0 (.bool nP)).box (hBP.set 0 (.bool nP)) 1 (.slice aP qP cP); have hvS := (hvS.box hBP 0 (.bool nP)).box (hBP.set 0 (.bool nP)) 1 (.slice aP qP cP); have hvP := (hvP.box hBP 0 (.bool nP)).box (hBP.set 0 (.bool nP)) 1 (.slice aP qP cP); have hBS := (hBS.other (p := ⟨pP, 0, none⟩) (by dsimp only; omega) (.bool nP)).other (p := ⟨pP, 1, none⟩) (by dsimp only; omega) (.slice aP qP cP); have hBP := (hBP.set 0 (.bool nP)).set 1 (.slice aP qP cP); clear g0 g1 q0 q1; generalize ((y49).setCell ⟨pP, 0, none⟩ (.bool nP)).setCell ⟨pP, 1, none⟩ (.slice aP qP cP) = y50 at *
                  refine hK.out _ _ ?_ (fun hHeld2 => ?_)
                  · exact ⟨cell_ext hE dc0, cell_ext hE dc1, cell_ext hE dc2, cell_ext hE dc3, cell_ext hE dc4, cell_ext hE dc5⟩
                  clear hK K hHeld
                  have hHeld := hHeld2
                  clear hHeld2
                  (try simp only [Act.put, List.getElem_toArray, List.getElem_cons_succ, List.getElem_cons_zero, List.setIfInBounds_toArray, List.set_cons_zero, List.set_cons_succ])
                  refine wpAnyH_take (i := 15) (oi := _) (v := ?_) rfl (by kernel_rfl) (by kernel_rfl) (by kernel_rfl) (fun _ _ _ h => h) (Or.inl ⟨by rfl, ?_⟩) (by assumption) ?_
                  rotate_left
                  · (intro w hSw; (try dsimp only at hSw); (try go_simp); (try with_reducible rfl))
                  (try simp only [Act.put, List.getElem_toArray, List.getElem_cons_succ, List.getElem_cons_zero, List.setIfInBounds_toArray, List.set_cons_zero, List.set_cons_succ])
                  refine wpAnyH_done (by kernel_rfl) ?_ _
                  (go_wp2_with fail; go_meet; exact ⟨pS, pP, nS, aS, qS, cS, nP, aP, qP, cP, rfl, rfl, rfl, hBS, hBP, hvS, hvP, hE⟩)
                exact AllReadyH.nil
              exact AllReadyH.nil
            exact AllReadyH.nil
          refine AllReadyH.cons (o := _) rfl (fun K hK => ?_) ?_
          · go_simp
            have hy : Ext (y46) ((y46).alloc (.cells #[.bool false, .slice none 0 0] 24)) := Ext.alloc _ _; have hqS : x29.heap.size ≤ y46.heap.size := hE.size; have hE := hE.trans hy; have hdPS : pP < y46.heap.size := hBP.lt; have hvm := hvm.ext hy; have hBP := hBP.ext hy; have hvn := hvn.ext hy; have hBS : Blk ((y46).alloc (.cells #[.bool false, .slice none 0 0] 24)) y46.heap.size #[.bool false, .slice none 0 0] 24 := Blk.new0 _ _ _; generalize (y46).alloc (.cells #[.bool false, .slice none 0 0] 24) = y51 at *; generalize y46.heap.size = pS at *
            refine hK.out _ _ ?_ (fun hHeld2 => ?_)
            · exact ⟨cell_ext hE dc0, cell_ext hE dc1, cell_ext hE dc2, cell_ext hE dc3, cell_ext hE dc4, cell_ext hE dc5⟩
            clear hK K hHeld
            have hHeld := hHeld2
            clear hHeld2
            (try simp only [Act.put, List.getElem_toArray, List.getElem_cons_succ, List.getElem_cons_zero, List.setIfInBounds_toArray, List.set_cons_zero, List.set_cons_succ])
            refine wpAnyH_ready (rs := [6]) (by kernel_rfl) (by simp) ?_
            refine AllReadyH.cons (o := _) rfl (fun K hK => ?_) ?_
            · go_simp
              (with_reducible refine (div_any hvn (Vb.out.ext hE) Lj.out Lb.out HB0.out).mono ?_); rintro e y52 ⟨vS, vP, rfl, hvS, hvP, hy⟩; have hE := hE.trans hy; have hvm := hvm.ext hy; have hBP := hBP.ext hy; have hvn := hvn.ext hy; have hBS := hBS.ext hy; rw [HU.out.1] at hvS; rw [HU.out.2] at hvP; obtain ⟨nS, aS, qS, cS, rfl⟩ := hvS.form; obtain ⟨nP, aP, qP, cP, rfl⟩ := hvP.form
              refine hK.out _ _ ?_ (fun hHeld2 => ?_)
              · exact ⟨cell_ext hE dc0, cell_ext hE dc1, cell_ext hE dc2, cell_ext hE dc3, cell_ext hE dc4, cell_ext hE dc5⟩
              clear hK K hHeld
              have hHeld := hHeld2
              clear hHeld2
              (try simp only [Act.put, List.getElem_toArray, List.getElem_cons_succ, List.getElem_cons_zero, List.setIfInBounds_toArray, List.set_cons_zero, List.set_cons_succ])
              refine wpAnyH_take (i := 7) (oi := _) (v := ?_) rfl (by kernel_rfl) (by kernel_rfl) (by kernel_rfl) (fun _ _ _ h => h) (Or.inl ⟨by rfl, ?_⟩) (by assumption) ?_
              rotate_left
              · (intro w hSw; (try dsimp only at hSw); (try go_simp); (try with_reducible rfl))
              (try simp only [Act.put, List.getElem_toArray, List.getElem_cons_succ, List.getElem_cons_zero, List.setIfInBounds_toArray, List.set_cons_zero, List.set_cons_succ])
              refine wpAnyH_take (i := 8) (oi := _) (v := ?_) rfl (by kernel_rfl) (by kernel_rfl) (by kernel_rfl) (fun _ _ _ h => h) (Or.inl ⟨by rfl, ?_⟩) (by assumption) ?_
              rotate_left
              · (intro w hSw; (try dsimp only at hSw); (try go_simp); (try with_reducible rfl))
              (try simp only [Act.put, List.getElem_toArray, List.getElem_cons_succ, List.getElem_cons_zero, List.setIfInBounds_toArray, List.set_cons_zero, List.set_cons_succ])
              refine wpAnyH_take (i := 9) (oi := _) (v := ?_) rfl (by kernel_rfl) (by kernel_rfl) (by kernel_rfl) (fun _ _ _ h => h) (Or.inl ⟨by rfl, ?_⟩) (by assumption) ?_
              rotate_left
              · (intro w hSw; (try dsimp only at hSw); (try go_simp); (try with_reducible rfl))
              (try simp only [Act.put, List.getElem_toArray, List.getElem_cons_succ, List.getElem_cons_zero, List.setIfInBounds_toArray, List.set_cons_zero, List.set_cons_succ])
              refine wpAnyH_take (i := 10) (oi := _) (v := ?_) rfl (by kernel_rfl) (by kernel_rfl) (by kernel_rfl) (fun _ _ _ h => h) (Or.inl ⟨by rfl, ?_⟩) (by assumption) ?_
              rotate_left
              · (intro w hSw; (try dsimp only at hSw); (try go_simp); (try with_reducible rfl))
              (try simp only [Act.put, List.getElem_toArray, List.getElem_cons_succ, List.getElem_cons_zero, List.setIfInBounds_toArray, List.set_cons_zero, List.set_cons_succ])
              refine wpAnyH_ready (rs := [13]) (by kernel_rfl) (by simp) ?_
              refine AllReadyH.cons (o := _) rfl (fun K hK => ?_) ?_
              · go_simp
                have g0 := hBS.cell (i := 0) (v := .bool false) rfl; have g1 := (hBS.set 0 (.bool nS)).cell (i := 1) (v := .slice none 0 0) rfl; have q0 := hBS.free 0; have q1 := (hBS.set 0 (.bool nS)).free 1; go_simp; have hE := (hE.set (p := ⟨pS, 0, none⟩) hqS (.bool nS)).set (p := ⟨pS, 1, none⟩) hqS (.slice aS qS cS); have hvm := (hvm.box hBS 0 (.bool nS)).box (hBS.set 0 (.bool nS)) 1 (.slice aS qS cS); have hBP := (hBP.other (p := ⟨pS, 0, none⟩) (by dsimp only; omega) (.bool nS)).other (p := ⟨pS, 1, none⟩) (by dsimp only; omega) (.slice aS qS cS); have hvn := (hvn.box hBS 0 (.bool nS)).box (hBS.set 0 (.bool nS)) 1 (.slice aS qS cS); have hvS := (hvS.box hBS 0 (.bool nS)).box (hBS.set 0 (.bool nS)) 1 (.slice aS qS cS); have hvP := (hvP.box hBS 0 (.bool nS)).box (hBS.set 0 (.bool nS)) 1 (.slice aS qS cS); have hBS := (hBS.set 0 (.bool nS)).set 1 (.slice aS qS cS); clear g0 g1 q0 q1; generalize ((y52).setCell ⟨pS, 0, none⟩ (.bool nS)).setCell ⟨pS, 1, none⟩ (.slice aS qS cS) = y53 at *
                refine hK.out _ _ ?_ (fun hHeld2 => ?_)
                · exact ⟨cell_ext hE dc0, cell_ext hE dc1, cell_ext hE dc2, cell_ext hE dc3, cell_ext hE dc4, cell_ext hE dc5⟩
                clear hK K hHeld
                have hHeld := hHeld2
                clear hHeld2
                (try simp only [Act.put, List.getElem_toArray, List.getElem_cons_succ, List.getElem_cons_zero, List.setIfInBounds_toArray, List.set_cons_zero, List.set_cons_succ])
                refine wpAnyH_ready (rs := [14]) (by kernel_rfl) (by simp) ?_
                refine AllReadyH.cons (o := _) rfl (fun K hK => ?_) ?_
                · go_simp
                  have g0 := hBP.cell (i := 0) (v := .bool false) rfl; have g1 := (hBP.set 0 (.bool nP)).cell (i := 1) (v := .slice none 0 0) rfl; have q0 := hBP.free 0; have q1 := (hBP.set 0 (.bool nP)).free 1; go_simp; have hE := (hE.set (p := ⟨pP, 0, none⟩) hqP (.bool nP)).set (p := ⟨pP, 1, none⟩) hqP (.slice aP qP cP); have hvm := (hvm.box hBP 0 (.bool nP)).box (hBP.set 0 (.bool nP)) 1 (.slice aP qP cP); have hvn := (hvn.box hBP 0 (.bool nP)).box (hBP.set 0 (.bool nP)) 1 (.slice aP qP cP); have hBS := (hBS.other (p := ⟨pP, 0, none⟩) (by dsimp only; omega) (.bool nP)).other (p := ⟨pP, 1, none⟩) (by dsimp only; omega) (.slice aP qP cP); have hvS := (hvS.box hBP 0 (.bool nP)).box (hBP.set 0 (.bool nP)) 1 (.slice aP qP cP); have hvP := (hvP.box hBP 0 (.bool nP)).box (hBP.set 0 (.bool nP)) 1 (.slice aP qP cP); have hBP := (hBP.set 0 (.bool nP)).set 1 (.slice aP qP cP); clear g0 g1 q0 q1; generalize ((y53).setCell ⟨pP, 0, none⟩ (.bool nP)).setCell ⟨pP, 1, none⟩ (.slice aP qP cP) = y54 at *
                  refine hK.out _ _ ?_ (fun hHeld2 => ?_)
                  · exact ⟨cell_ext hE dc0, cell_ext hE dc1, cell_ext hE dc2, cell_ext hE dc3, cell_ext hE dc4, cell_ext hE dc5⟩
                  clear hK K hHeld
                  have hHeld := hHeld2
                  clear hHeld2
                  (try simp only [Act.put, List.getElem_toArray, List.getElem_cons_succ, List.getElem_cons_zero, List.setIfInBounds_toArray, List.set_cons_zero, List.set_cons_succ])
                  refine wpAnyH_take (i := 15) (oi := _) (v := ?_) rfl (by kernel_rfl) (by kernel_rfl) (by kernel_rfl) (fun _ _ _ h => h) (Or.inl ⟨by rfl, ?_⟩) (by assumption) ?_
                  rotate_left
                  · (intro w hSw; (try dsimp only at hSw); (try go_simp); (try with_reducible rfl))
                  (try simp only [Act.put, List.getElem_toArray, List.getElem_cons_succ, List.getElem_cons_zero, List.setIfInBounds_toArray, List.set_cons_zero, List.set_cons_succ])
                  refine wpAnyH_done (by kernel_rfl) ?_ _
                  (go_wp2_with fail; go_meet; exact ⟨pS, pP, nS, aS, qS, cS, nP, aP, qP, cP, rfl, rfl, rfl, hBS, hBP, hvS, hvP, hE⟩)
                exact AllReadyH.nil
              exact AllReadyH.nil
            exact AllReadyH.nil
          exact AllReadyH.nil
        refine AllReadyH.cons (o := _) rfl (fun K hK => ?_) ?_
        · go_simp
          have hy : Ext (y45) ((y45).alloc (.cells #[.bool false, .slice none 0 0] 24)) := Ext.alloc _ _; have hqS : x29.heap.size ≤ y45.heap.size := hE.size; have hE := hE.trans hy; have hdPS : pP < y45.heap.size := hBP.lt; have hvm := hvm.ext hy; have hBP := hBP.ext hy; have hBS : Blk ((y45).alloc (.cells #[.bool false, .slice none 0 0] 24)) y45.heap.size #[.bool false, .slice none 0 0] 24 := Blk.new0 _ _ _; generalize (y45).alloc (.cells #[.bool false, .slice none 0 0] 24) = y55 at *; generalize y45.heap.size = pS at *
          refine hK.out _ _ ?_ (fun hHeld2 => ?_)
          · exact ⟨cell_ext hE dc0, cell_ext hE dc1, cell_ext hE dc2, cell_ext hE dc3, cell_ext hE dc4, cell_ext hE dc5⟩
          clear hK K hHeld
          have hHeld := hHeld2
          clear hHeld2
          (try simp only [Act.put, List.getElem_toArray, List.getElem_cons_succ, List.getElem_cons_zero, List.setIfInBounds_toArray, List.set_cons_zero, List.set_cons_succ])
          refine wpAnyH_ready (rs := [4]) (by kernel_rfl) (by simp) ?_
          refine AllReadyH.cons (o := _) rfl (fun K hK => ?_) ?_
          · go_simp
            (with_reducible refine (calc_add pc _ (KC.out.ext hE) hvm (Vr.out.ext hE) Lk.out Lr.out Lj.out).mono ?_); rintro e y56 ⟨vn, rfl, hvn, hy⟩; have hE := hE.trans hy; have hvm := hvm.ext hy; have hBP := hBP.ext hy; have hBS := hBS.ext hy; have hvn := hvn.val
            refine hK.out _ _ ?_ (fun hHeld2 => ?_)
            · exact ⟨cell_ext hE dc0, cell_ext hE dc1, cell_ext hE dc2, cell_ext hE dc3, cell_ext hE dc4, cell_ext hE dc5⟩
            clear hK K hHeld
            have hHeld := hHeld2
            clear hHeld2
            (try simp only [Act.put, List.getElem_toArray, List.getElem_cons_succ, List.getElem_cons_zero, List.setIfInBounds_toArray, List.set_cons_zero, List.set_cons_succ])
            refine wpAnyH_ready (rs := [6]) (by kernel_rfl) (by simp) ?_
            refine AllReadyH.cons (o := _) rfl (fun K hK => ?_) ?_
            · go_simp
              (with_reducible refine (div_any hvn (Vb.out.ext hE) Lj.out Lb.out HB0.out).mono ?_); rintro e y57 ⟨vS, vP, rfl, hvS, hvP, hy⟩; have hE := hE.trans hy; have hvm := hvm.ext hy; have hBP := hBP.ext hy; have hBS := hBS.ext hy; have hvn := hvn.ext hy; rw [HU.out.1] at hvS; rw [HU.out.2] at hvP; obtain ⟨nS, aS, qS, cS, rfl⟩ := hvS.form; obtain ⟨nP, aP, qP, cP, rfl⟩ := hvP.form
              refine hK.out _ _ ?_ (fun hHeld2 => ?_)
              · exact ⟨cell_ext hE dc0, cell_ext hE dc1, cell_ext hE dc2, cell_ext hE dc3, cell_ext hE dc4, cell_ext hE dc5⟩
              clear hK K hHeld
              have hHeld := hHeld2
              clear hHeld2
              (try simp only [Act.put, List.getElem_toArray, List.getElem_cons_succ, List.getElem_cons_zero, List.setIfInBounds_toArray, List.set_cons_zero, List.set_cons_succ])
              refine wpAnyH_take (i := 7) (oi := _) (v := ?_) rfl (by kernel_rfl) (by kernel_rfl) (by kernel_rfl) (fun _ _ _ h => h) (Or.inl ⟨by rfl, ?_⟩) (by assumption) ?_
              rotate_left
              · (intro w hSw; (try dsimp only at hSw); (try go_simp); (try with_reducible rfl))
              (try simp only [Act.put, List.getElem_toArray, List.getElem_cons_succ, List.getElem_cons_zero, List.setIfInBounds_toArray, List.set_cons_zero, List.set_cons_succ])
              refine wpAnyH_take (i := 8) (oi := _) (v := ?_) rfl (by kernel_rfl) (by kernel_rfl) (by kernel_rfl) (fun _ _ _ h => h) (Or.inl ⟨by rfl, ?_⟩) (by assumption) ?_
              rotate_left
              · (intro w hSw; (try dsimp only at hSw); (try go_simp); (try with_reducible rfl))
              (try simp only [Act.put, List.getElem_toArray, List.getElem_cons_succ, List.getElem_cons_zero, List.setIfInBounds_toArray, List.set_cons_zero, List.set_cons_succ])
              refine wpAnyH_take (i := 9) (oi := _) (v := ?_) rfl (by kernel_rfl) (by kernel_rfl) (by kernel_rfl) (fun _ _ _ h => h) (Or.inl ⟨by rfl, ?_⟩) (by assumption) ?_
              rotate_left
              · (intro w hSw; (try dsimp only at hSw); (try go_simp); (try with_reducible rfl))
              (try simp only [Act.put, List.getElem_toArray, List.getElem_cons_succ, List.getElem_cons_zero, List.setIfInBounds_toArray, List.set_cons_zero, List.set_cons_succ])
              refine wpAnyH_take (i := 10) (oi := _) (v := ?_) rfl (by kernel_rfl) (by kernel_rfl) (by kernel_rfl) (fun _ _ _ h => h) (Or.inl ⟨by rfl, ?_⟩) (by assumption) ?_
              rotate_left
              · (intro w hSw; (try dsimp only at hSw); (try go_simp); (try with_reducible rfl))
              (try simp only [Act.put, List.getElem_toArray, List.getElem_cons_succ, List.getElem_cons_zero, List.setIfInBounds_toArray, List.set_cons_zero, List.set_cons_succ])
              refine wpAnyH_ready (rs := [13]) (by kernel_rfl) (by simp) ?_
              refine AllReadyH.cons (o := _) rfl (fun K hK => ?_) ?_
              · go_simp
                have g0 := hBS.cell (i := 0) (v := .bool false) rfl; have g1 := (hBS.set 0 (.bool nS)).cell (i := 1) (v := .slice none 0 0) rfl; have q0 := hBS.free 0; have q1 := (hBS.set 0 (.bool nS)).free 1; go_simp; have hE := (hE.set (p := ⟨pS, 0, none⟩) hqS (.bool nS)).set (p := ⟨pS, 1, none⟩) hqS (.slice aS qS cS); have hvm := (hvm.box hBS 0 (.bool nS)).box (hBS.set 0 (.bool nS)) 1 (.slice aS qS cS); have hBP := (hBP.other (p := ⟨pS, 0, none⟩) (by dsimp only; omega) (.bool nS)).other (p := ⟨pS, 1, none⟩) (by dsimp only; omega) (.slice aS qS cS); have hvn := (hvn.box hBS 0 (.bool nS)).box (hBS.set 0 (.bool nS)) 1 (.slice aS qS cS); have hvS := (hvS.box hBS 0 (.bool nS)).box (hBS.set 0 (.bool nS)) 1 (.slice aS qS cS); have hvP := (hvP.box hBS 0 (.bool nS)).box (hBS.set 0 (.bool nS)) 1 (.slice aS qS cS); have hBS := (hBS.set 0 (.bool nS)).set 1 (.slice aS qS cS); clear g0 g1 q0 q1; generalize ((y57).setCell ⟨pS, 0, none⟩ (.bool nS)).setCell ⟨pS, 1, none⟩ (.slice aS qS cS) = y58 at *
                refine hK.out _ _ ?_ (fun hHeld2 => ?_)
                · exact ⟨cell_ext hE dc0, cell_ext hE dc1, cell_ext hE dc2, cell_ext hE dc3, cell_ext hE dc4, cell_ext hE dc5⟩
                clear hK K hHeld
                have hHeld := hHeld2
                clear hHeld2
                (try simp only [Act.put, List.getElem_toArray, List.getElem_cons_succ, List.getElem_cons_zero, List.setIfInBounds_toArray, List.set_cons_zero, List.set_cons_succ])
                refine wpAnyH_ready (rs := [14]) (by kernel_rfl) (by simp) ?_
                refine AllReadyH.cons (o := _) rfl (fun K hK => ?_) ?_
                · go_simp
                  have g0 := hBP.cell (i := 0) (v := .bool false) rfl; have g1 := (hBP.set 0 (.bool nP)).cell (i := 1) (v := .slice none 0 0) rfl; have q0 := hBP.free 0; have q1 := (hBP.set 0 (.bool nP)).free 1; go_simp; have hE := (hE.set (p := ⟨pP, 0, none⟩) hqP (.bool nP)).set (p := ⟨pP, 1, none⟩) hqP (.slice aP qP cP); have hvm := (hvm.box hBP 0 (.bool nP)).box (hBP.set 0 (.bool nP)) 1 (.slice aP qP cP); have hBS := (hBS.other (p := ⟨pP, 0, none⟩) (by dsimp only; omega) (.bool nP)).other (p := ⟨pP, 1, none⟩) (by dsimp only; omega) (.slice aP qP cP); have hvn := (hvn.box hBP 0 (.bool nP)).box (hBP.set 0 (.bool nP)) 1 (.slice aP qP cP); have hvS := (hvS.box hBP 0 (.bool nP)).box (hBP.set 0 (.bool nP)) 1 (.slice aP qP cP); have hvP := (hvP.box hBP 0 (.bool nP)).box (hBP.set 0 (.bool nP)) 1 (.slice aP qP cP); have hBP := (hBP.set 0 (.bool nP)).set 1 (.slice aP qP cP); clear g0 g1 q0 q1; generalize ((y58).setCell ⟨pP, 0, none⟩ (.bool nP)).setCell ⟨pP, 1, none⟩ (.slice aP qP cP) = y59 at *
                  refine hK.out _ _ ?_ (fun hHeld2 => ?_)
                  · exact ⟨cell_ext hE dc0, cell_ext hE dc1, cell_ext hE dc2, cell_ext hE dc3, cell_ext hE dc4, cell_ext hE dc5⟩
                  clear hK K hHeld
                  have hHeld := hHeld2
                  clear hHeld2
                  (try simp only [Act.put, List.getElem_toArray, List.getElem_cons_succ, List.getElem_cons_zero, List.setIfInBounds_toArray, List.set_cons_zero, List.set_cons_succ])
                  refine wpAnyH_take (i := 15) (oi := _) (v := ?_) rfl (by kernel_rfl) (by kernel_rfl) (by kernel_rfl) (fun _ _ _ h => h) (Or.inl ⟨by rfl, ?_⟩) (by assumption) ?_
                  rotate_left
                  · (intro w hSw; (try dsimp only at hSw); (try go_simp); (try with_reducible rfl))
                  (try simp only [Act.put, List.getElem_toArray, List.getElem_cons_succ, List.getElem_cons_zero, List.setIfInBounds_toArray, List.set_cons_zero, List.set_cons_succ])
                  refine wpAnyH_done (by kernel_rfl) ?_ _
                  (go_wp2_with fail; go_meet; exact ⟨pS, pP, nS, aS, qS, cS, nP, aP, qP, cP, rfl, rfl, rfl, hBS, hBP, hvS, hvP, hE⟩)
                exact AllReadyH.nil
              exact AllReadyH.nil
            exact AllReadyH.nil
          exact AllReadyH.nil
        exact AllReadyH.nil
      exact AllReadyH.nil
    refine AllReadyH.cons (o := _) rfl (fun K hK => ?_) ?_
    · go_simp
      have hy : Ext (y0) ((y0).alloc (.cells #[.bool false, .slice none 0 0] 24)) := Ext.alloc _ _; have hqS : x29.heap.size ≤ y0.heap.size := hE.size; have hE := hE.trans hy; have hBS : Blk ((y0).alloc (.cells #[.bool false, .slice none 0 0] 24)) y0.heap.size #[.bool false, .slice none 0 0] 24 := Blk.new0 _ _ _; generalize (y0).alloc (.cells #[.bool false, .slice none 0 0] 24) = y60 at *; generalize y0.heap.size = pS at *
      refine hK.out _ _ ?_ (fun hHeld2 => ?_)
      · exact ⟨cell_ext hE dc0, cell_ext hE dc1, cell_ext hE dc2, cell_ext hE dc3, cell_ext hE dc4, cell_ext hE dc5⟩
      clear hK K hHeld
      have hHeld := hHeld2
      clear hHeld2
      (try simp only [Act.put, List.getElem_toArray, List.getElem_cons_succ, List.getElem_cons_zero, List.setIfInBounds_toArray, List.set_cons_zero, List.set_cons_succ])
      refine wpAnyH_ready (rs := [2, 12]) (by kernel_rfl) (by simp) ?_
      refine AllReadyH.cons (o := _) rfl (fun K hK => ?_) ?_
      · go_simp
        (with_reducible refine (calc_mul pc _ (KC.out.ext hE) (Vq.out.ext hE) (Vb.out.ext hE) Lq.out Lb.out Lk.out).mono ?_); rintro e y61 ⟨vm, rfl, hvm, hy⟩; have hE := hE.trans hy; have hBS := hBS.ext hy; have hvm := hvm.val
        refine hK.out _ _ ?_ (fun hHeld2 => ?_)
        · exact ⟨cell_ext hE dc0, cell_ext hE dc1, cell_ext hE dc2, cell_ext hE dc3, cell_ext hE dc4, cell_ext hE dc5⟩
        clear hK K hHeld
        have hHeld := hHeld2
        clear hHeld2
        (try simp only [Act.put, List.getElem_toArray, List.getElem_cons_succ, List.getElem_cons_zero, List.setIfInBounds_toArray, List.set_cons_zero, List.set_cons_succ])
        refine wpAnyH_ready (rs := [4, 12]) (by kernel_rfl) (by simp) ?_
        refine AllReadyH.cons (o := _) rfl (fun K hK => ?_) ?_
        · go_simp
          (with_reducible refine (calc_add pc _ (KC.out.ext hE) hvm (Vr.out.ext hE) Lk.out Lr.out Lj.out).mono ?_); rintro e y62 ⟨vn, rfl, hvn, hy⟩; have hE := hE.trans hy; have hBS := hBS.ext hy; have hvm := hvm.ext hy; have hvn := hvn.val
          refine hK.out _ _ ?_ (fun hHeld2 => ?_)
          · exact ⟨cell_ext hE dc0, cell_ext hE dc1, cell_ext hE dc2, cell_ext hE dc3, cell_ext hE dc4, cell_ext hE dc5⟩
          clear hK K hHeld
          have hHeld := hHeld2
          clear hHeld2
          (try simp only [Act.put, List.getElem_toArray, List.getElem_cons_succ, List.getElem_cons_zero, List.setIfInBounds_toArray, List.set_cons_zero, List.set_cons_succ])
          refine wpAnyH_ready (rs := [6, 12]) (by kernel_rfl) (by simp) ?_
          refine AllReadyH.cons (o := _) rfl (fun K hK => ?_) ?_
          · go_simp
            (with_reducible refine (div_any hvn (Vb.out.ext hE) Lj.out Lb.out HB0.out).mono ?_); rintro e y63 ⟨vS, vP, rfl, hvS, hvP, hy⟩; have hE := hE.trans hy; have hBS := hBS.ext hy; have hvm := hvm.ext hy; have hvn := hvn.ext hy; rw [HU.out.1] at hvS; rw [HU.out.2] at hvP; obtain ⟨nS, aS, qS, cS, rfl⟩ := hvS.form; obtain ⟨nP, aP, qP, cP, rfl⟩ := hvP.form
            refine hK.out _ _ ?_ (fun hHeld2 => ?_)
            · exact ⟨cell_ext hE dc0, cell_ext hE dc1, cell_ext hE dc2, cell_ext hE dc3, cell_ext hE dc4, cell_ext hE dc5⟩
            clear hK K hHeld
            have hHeld := hHeld2
            clear hHeld2
            (try simp only [Act.put, List.getElem_toArray, List.getElem_cons_succ, List.getElem_cons_zero, List.setIfInBounds_toArray, List.set_cons_zero, List.set_cons_succ])
            refine wpAnyH_take (i := 7) (oi := _) (v := ?_) rfl (by kernel_rfl) (by kernel_rfl) (by kernel_rfl) (fun _ _ _ h => h) (Or.inl ⟨by rfl, ?_⟩) (by assumption) ?_
            rotate_left
            · (intro w hSw; (try dsimp only at hSw); (try go_simp); (try with_reducible rfl))
            (try simp only [Act.put, List.getElem_toArray, List.getElem_cons_succ, List.getElem_cons_zero, List.setIfInBounds_toArray, List.set_cons_zero, List.set_cons_succ])
            refine wpAnyH_take (i := 8) (oi := _) (v := ?_) rfl (by kernel_rfl) (by kernel_rfl) (by kernel_rfl) (fun _ _ _ h => h) (Or.inl ⟨by rfl, ?_⟩) (by assumption) ?_
            rotate_left
            · (intro w hSw; (try dsimp only at hSw); (try go_simp); (try with_reducible rfl))
            (try simp only [Act.put, List.getElem_toArray, List.getElem_cons_succ, List.getElem_cons_zero, List.setIfInBounds_toArray, List.set_cons_zero, List.set_cons_succ])
            refine wpAnyH_take (i := 9) (oi := _) (v := ?_) rfl (by kernel_rfl) (by kernel_rfl) (by kernel_rfl) (fun _ _ _ h => h) (Or.inl ⟨by rfl, ?_⟩) (by assumption) ?_
            rotate_left
            · (intro w hSw; (try dsimp only at hSw); (try go_simp); (try with_reducible rfl))
            (try simp only [Act.put, List.getElem_toArray, List.getElem_cons_succ, List.getElem_cons_zero, List.setIfInBounds_toArray, List.set_cons_zero, List.set_cons_succ])
            refine wpAnyH_take (i := 10) (oi := _) (v := ?_) rfl (by kernel_rfl) (by kernel_rfl) (by kernel_rfl) (fun _ _ _ h => h) (Or.inl ⟨by rfl, ?_⟩) (by assumption) ?_
            rotate_left
            · (intro w hSw; (try dsimp only at hSw); (try go_simp); (try with_reducible rfl))
            (try simp only [Act.put, List.getElem_toArray, List.getElem_cons_succ, List.getElem_cons_zero, List.setIfInBounds_toArray, List.set_cons_zero, List.set_cons_succ])
            refine wpAnyH_ready (rs := [12]) (by kernel_rfl) (by simp) ?_
            refine AllReadyH.cons (o := _) rfl (fun K hK => ?_) ?_
            · go_simp
              have hy : Ext (y63) ((y63).alloc (.cells #[.bool false, .slice none 0 0] 24)) := Ext.alloc _ _; have hqP : x29.heap.size ≤ y63.heap.size := hE.size; have hE := hE.trans hy; have hdSP : pS < y63.heap.size := hBS.lt; have hBS := hBS.ext hy; have hvm := hvm.ext hy; have hvn := hvn.ext hy; have hvS := hvS.ext hy; have hvP := hvP.ext hy; have hBP : Blk ((y63).alloc (.cells #[.bool false, .slice none 0 0] 24)) y63.heap.size #[.bool false, .slice none 0 0] 24 := Blk.new0 _ _ _; generalize (y63).alloc (.cells #[.bool false, .slice none 0 0] 24) = y64 at *; generalize y63.heap.size = pP at *
              refine hK.out _ _ ?_ (fun hHeld2 => ?_)
              · exact ⟨cell_ext hE dc0, cell_ext hE dc1, cell_ext hE dc2, cell_ext hE dc3, cell_ext hE dc4, cell_ext hE dc5⟩
              clear hK K hHeld
              have hHeld := hHeld2
              clear hHeld2
              (try simp only [Act.put, List.getElem_toArray, List.getElem_cons_succ, List.getElem_cons_zero, List.setIfInBounds_toArray, List.set_cons_zero, List.set_cons_succ])
              refine wpAnyH_ready (rs := [13]) (by kernel_rfl) (by simp) ?_
              refine AllReadyH.cons (o := _) rfl (fun K hK => ?_) ?_
              · go_simp
                have g0 := hBS.cell (i := 0) (v := .bool false) rfl; have g1 := (hBS.set 0 (.bool nS)).cell (i := 1) (v := .slice none 0 0) rfl; have q0 := hBS.free 0; have q1 := (hBS.set 0 (.bool nS)).free 1; go_simp; have hE := (hE.set (p := ⟨pS, 0, none⟩) hqS (.bool nS)).set (p := ⟨pS, 1, none⟩) hqS (.slice aS qS cS); have hvm := (hvm.box hBS 0 (.bool nS)).box (hBS.set 0 (.bool nS)) 1 (.slice aS qS cS); have hvn := (hvn.box hBS 0 (.bool nS)).box (hBS.set 0 (.bool nS)) 1 (.slice aS qS cS); have hvS := (hvS.box hBS 0 (.bool nS)).box (hBS.set 0 (.bool nS)) 1 (.slice aS qS cS); have hvP := (hvP.box hBS 0 (.bool nS)).box (hBS.set 0 (.bool nS)) 1 (.slice aS qS cS); have hBP := (hBP.other (p := ⟨pS, 0, none⟩) (by dsimp only; omega) (.bool nS)).other (p := ⟨pS, 1, none⟩) (by dsimp only; omega) (.slice aS qS cS); have hBS := (hBS.set 0 (.bool nS)).set 1 (.slice aS qS cS); clear g0 g1 q0 q1; generalize ((y64).setCell ⟨pS, 0, none⟩ (.bool nS)).setCell ⟨pS, 1, none⟩ (.slice aS qS cS) = y65 at *
                refine hK.out _ _ ?_ (fun hHeld2 => ?_)
                · exact ⟨cell_ext hE dc0, cell_ext hE dc1, cell_ext hE dc2, cell_ext hE dc3, cell_ext hE dc4, cell_ext hE dc5⟩
                clear hK K hHeld
                have hHeld := hHeld2
                clear hHeld2
                (try simp only [Act.put, List.getElem_toArray, List.getElem_cons_succ, List.getElem_cons_zero, List.setIfInBounds_toArray, List.set_cons_zero, List.set_cons_succ])
                refine wpAnyH_ready (rs := [14]) (by kernel_rfl) (by simp) ?_
                refine AllReadyH.cons (o := _) rfl (fun K hK => ?_) ?_
                · go_simp
                  have g0 := hBP.cell (i := 0) (v := .bool false) rfl; have g1 := (hBP.set 0 (.bool nP)).cell (i := 1) (v := .slice none 0 0) rfl; have q0 := hBP.free 0; have q1 := (hBP.set 0 (.bool nP)).free 1; go_simp; have hE := (hE.set (p := ⟨pP, 0, none⟩) hqP (.bool nP)).set (p := ⟨pP, 1, none⟩) hqP (.slice aP qP cP); have hBS := (hBS.other (p := ⟨pP, 0, none⟩) (by dsimp only; omega) (.bool nP)).other (p := ⟨pP, 1, none⟩) (by dsimp only; omega) (.slice aP qP cP); have hvm := (hvm.box hBP 0 (.bool nP)).box (hBP.set 0 (.bool nP)) 1 (.slice aP qP cP); have hvn := (hvn.box hBP 0 (.bool nP)).box (hBP.set 0 (.bool nP)) 1 (.slice aP qP cP); have hvS := (hvS.box hBP 0 (.bool nP)).box (hBP.set 0 (.bool nP)) 1 (.slice aP qP cP); have hvP := (hvP.box hBP 0 (.bool nP)).box (hBP.set 0 (.bool nP)) 1 (.slice aP qP cP); have hBP := (hBP.set 0 (.bool nP)).set 1 (.slice aP qP cP); clear g0 g1 q0 q1; generalize ((y65).setCell ⟨pP, 0, none⟩ (.bool nP)).setCell ⟨pP, 1, none⟩ (.slice aP qP cP) = y66 at *
                  refine hK.out _ _ ?_ (fun hHeld2 => ?_)
                  · exact ⟨cell_ext hE dc0, cell_ext hE dc1, cell_ext hE dc2, cell_ext hE dc3, cell_ext hE dc4, cell_ext hE dc5⟩
                  clear hK K hHeld
                  have hHeld := hHeld2
                  clear hHeld2
                  (try simp only [Act.put, List.getElem_toArray, List.getElem_cons_succ, List.getElem_cons_zero, List.setIfInBounds_toArray, List.set_cons_zero, List.set_cons_succ])
                  refine wpAnyH_take (i := 15) (oi := _) (v := ?_) rfl (by kernel_rfl) (by kernel_rfl) (by kernel_rfl) (fun _ _ _ h => h) (Or.inl ⟨by rfl, ?_⟩) (by assumption) ?_
                  rotate_left
                  · (intro w hSw; (try dsimp only at hSw); (try go_simp); (try with_reducible rfl))
                  (try simp only [Act.put, List.getElem_toArray, List.getElem_cons_succ, List.getElem_cons_zero, List.setIfInBounds_toArray, List.set_cons_zero, List.set_cons_succ])
                  refine wpAnyH_done (by kernel_rfl) ?_ _
                  (go_wp2_with fail; go_meet; exact ⟨pS, pP, nS, aS, qS, cS, nP, aP, qP, cP, rfl, rfl, rfl, hBS, hBP, hvS, hvP, hE⟩)
                exact AllReadyH.nil
              exact AllReadyH.nil
            exact AllReadyH.nil
          refine AllReadyH.cons (o := _) rfl (fun K hK => ?_) ?_
          · go_simp
            have hy : Ext (y62) ((y62).alloc (.cells #[.bool false, .slice none 0 0] 24)) := Ext.alloc _ _; have hqP : x29.heap.size ≤ y62.heap.size := hE.size; have hE := hE.trans hy; have hdSP : pS < y62.heap.size := hBS.lt; have hBS := hBS.ext hy; have hvm := hvm.ext hy; have hvn := hvn.ext hy; have hBP : Blk ((y62).alloc (.cells #[.bool false, .slice none 0 0] 24)) y62.heap.size #[.bool false, .slice none 0 0] 24 := Blk.new0 _ _ _; generalize (y62).alloc (.cells #[.bool false, .slice none 0 0] 24) = y67 at *; generalize y62.heap.size = pP at *
            refine hK.out _ _ ?_ (fun hHeld2 => ?_)
            · exact ⟨cell_ext hE dc0, cell_ext hE dc1, cell_ext hE dc2, cell_ext hE dc3, cell_ext hE dc4, cell_ext hE dc5⟩
            clear hK K hHeld
            have hHeld := hHeld2
            clear hHeld2
            (try simp only [Act.put, List.getElem_toArray, List.getElem_cons_succ, List.getElem_cons_zero, List.setIfInBounds_toArray, List.set_cons_zero, List.set_cons_succ])
            refine wpAnyH_ready (rs := [6]) (by kernel_rfl) (by simp) ?_
            refine AllReadyH.cons (o := _) rfl (fun K hK => ?_) ?_
            · go_simp
              (with_reducible refine (div_any hvn (Vb.out.ext hE) Lj.out Lb.out HB0.out).mono ?_); rintro e y68 ⟨vS, vP, rfl, hvS, hvP, hy⟩; have hE := hE.trans hy; have hBS := hBS.ext hy; have hvm := hvm.ext hy; have hvn := hvn.ext hy; have hBP := hBP.ext hy; rw [HU.out.1] at hvS; rw [HU.out.2] at hvP; obtain ⟨nS, aS, qS, cS, rfl⟩ := hvS.form; obtain ⟨nP, aP, qP, cP, rfl⟩ := hvP.form
              refine hK.out _ _ ?_ (fun hHeld2 => ?_)
              · exact ⟨cell_ext hE dc0, cell_ext hE dc1, cell_ext hE dc2, cell_ext hE dc3, cell_ext hE dc4, cell_ext hE dc5⟩
              clear hK K hHeld
              have hHeld := hHeld2
              clear hHeld2
              (try simp only [Act.put, List.getElem_toArray, List.getElem_cons_succ, List.getElem_cons_zero, List.setIfInBounds_toArray, List.set_cons_zero, List.set_cons_succ])
              refine wpAnyH_take (i := 7) (oi := _) (v := ?_) rfl (by kernel_rfl) (by kernel_rfl) (by kernel_rfl) (fun _ _ _ h => h) (Or.inl ⟨by rfl, ?_⟩) (by assumption) ?_
              rotate_left
              · (intro w hSw; (try dsimp only at hSw); (try go_simp); (try with_reducible rfl))
              (try simp only [Act.put, List.getElem_toArray, List.getElem_cons_succ, List.getElem_cons_zero, List.setIfInBounds_toArray, List.set_cons_zero, List.set_cons_succ])
              refine wpAnyH_take (i := 8) (oi := _) (v := ?_) rfl (by kernel_rfl) (by kernel_rfl) (by kernel_rfl) (fun _ _ _ h => h) (Or.inl ⟨by rfl, ?_⟩) (by assumption) ?_
              rotate_left
              · (intro w hSw; (try dsimp only at hSw); (try go_simp); (try with_reducible rfl))
              (try simp only [Act.put, List.getElem_toArray, List.getElem_cons_succ, List.getElem_cons_zero, List.setIfInBounds_toArray, List.set_cons_zero, List.set_cons_succ])
              refine wpAnyH_take (i := 9) (oi := _) (v := ?_) rfl (by kernel_rfl) (by kernel_rfl) (by kernel_rfl) (fun _ _ _ h => h) (Or.inl ⟨by rfl, ?_⟩) (by assumption) ?_
              rotate_left
              · (intro w hSw; (try dsimp only at hSw); (try go_simp); (try with_reducible rfl))
              (try simp only [Act.put, List.getElem_toArray, List.getElem_cons_succ, List.getElem_cons_zero, List.setIfInBounds_toArray, List.set_cons_zero, List.set_cons_succ])
              refine wpAnyH_take (i := 10) (oi := _) (v := ?_) rfl (by kernel_rfl) (by kernel_rfl) (by kernel_rfl) (fun _ _ _ h => h) (Or.inl ⟨by rfl, ?_⟩) (by assumption) ?_
              rotate_left
              · (intro w hSw; (try dsimp only at hSw); (try go_simp); (try with_reducible rfl))
              (try simp only [Act.put, List.getElem_toArray, List.getElem_cons_succ, List.getElem_cons_zero, List.setIfInBounds_toArray, List.set_cons_zero, List.set_cons_succ])
              refine wpAnyH_ready (rs := [13]) (by kernel_rfl) (by simp) ?_
              refine AllReadyH.cons (o := _) rfl (fun K hK => ?_) ?_
              · go_simp
                have g0 := hBS.cell (i := 0) (v := .bool false) rfl; have g1 := (hBS.set 0 (.bool nS)).cell (i := 1) (v := .slice none 0 0) rfl; have q0 := hBS.free 0; have q1 := (hBS.set 0 (.bool nS)).free 1; go_simp; have hE := (hE.set (p := ⟨pS, 0, none⟩) hqS (.bool nS)).set (p := ⟨pS, 1, none⟩) hqS (.slice aS qS cS); have hvm := (hvm.box hBS 0 (.bool nS)).box (hBS.set 0 (.bool nS)) 1 (.slice aS qS cS); have hvn := (hvn.box hBS 0 (.bool nS)).box (hBS.set 0 (.bool nS)) 1 (.slice aS qS cS); have hBP := (hBP.other (p := ⟨pS, 0, none⟩) (by dsimp only; omega) (.bool nS)).other (p := ⟨pS, 1, none⟩) (by dsimp only; omega) (.slice aS qS cS); have hvS := (hvS.box hBS 0 (.bool nS)).box (hBS.set 0 (.bool nS)) 1 (.slice aS qS cS); have hvP := (hvP.box hBS 0 (.bool nS)).box (hBS.set 0 (.bool nS)) 1 (.slice aS qS cS); have hBS := (hBS.set 0 (.bool nS)).set 1 (.slice aS qS cS); clear g0 g1 q0 q1; generalize ((y68).setCell ⟨pS, 0, none⟩ (.bool nS)).setCell ⟨pS, 1, none⟩ (.slice aS qS cS) = y69 at *
                refine hK.out _ _ ?_ (fun hHeld2 => ?_)
                · exact ⟨cell_ext hE dc0, cell_ext hE dc1, cell_ext hE dc2, cell_ext hE dc3, cell_ext hE dc4, cell_ext hE dc5⟩
                clear hK K hHeld
                have hHeld := hHeld2
                clear hHeld2
                (try simp only [Act.put, List.getElem_toArray, List.getElem_cons_succ, List.getElem_cons_zero, List.setIfInBounds_toArray, List.set_cons_zero, List.set_cons_succ])
                refine wpAnyH_ready (rs := [14]) (by kernel_rfl) (by simp) ?_
                refine AllReadyH.cons (o := _) rfl (fun K hK => ?_) ?_
                · go_simp
                  have g0 := hBP.cell (i := 0) (v := .bool false) rfl; have g1 := (hBP.set 0 (.bool nP)).cell (i := 1) (v := .slice none 0 0) rfl; have q0 := hBP.free 0; have q1 := (hBP.set 0 (.bool nP)).free 1; go_simp; have hE := (hE.set (p := ⟨pP, 0, none⟩) hqP (.bool nP)).set (p := ⟨pP, 1, none⟩) hqP (.slice aP qP cP); have hBS := (hBS.other (p := ⟨pP, 0, none⟩) (by dsimp only; omega) (.bool nP)).other (p := ⟨pP, 1, none⟩) (by dsimp only; omega) (.slice aP qP cP); have hvm := (hvm.box hBP 0 (.bool nP)).box (hBP.set 0 (.bool nP)) 1 (.slice aP qP cP); have hvn := (hvn.box hBP 0 (.bool nP)).box (hBP.set 0 (.bool nP)) 1 (.slice aP qP cP); have hvS := (hvS.box hBP 0 (.bool nP)).box (hBP.set 0 (.bool nP)) 1 (.slice aP qP cP); have hvP := (hvP.box hBP 0 (.bool nP)).box (hBP.set 0 (.bool nP)) 1 (.slice aP qP cP); have hBP := (hBP.set 0 (.bool nP)).set 1 (.slice aP qP cP); clear g0 g1 q0 q1; generalize ((y69).setCell ⟨pP, 0, none⟩ (.bool nP)).setCell ⟨pP, 1, none⟩ (.slice aP qP cP) = y70 at *
                  refine hK.out _ _ ?_ (fun hHeld2 => ?_)
                  · exact ⟨cell_ext hE dc0, cell_ext hE dc1, cell_ext hE dc2, cell_ext hE dc3, cell_ext hE dc4, cell_ext hE dc5⟩
                  clear hK K hHeld
                  have hHeld := hHeld2
                  clear hHeld2
                  (try simp only [Act.put, List.getElem_toArray, List.getElem_cons_succ, List.getElem_cons_zero, List.setIfInBounds_toArray, List.set_cons_zero, List.set_cons_succ])
                  refine wpAnyH_take (i := 15) (oi := _) (v := ?_) rfl (by kernel_rfl) (by kernel_rfl) (by kernel_rfl) (fun _ _ _ h => h) (Or.inl ⟨by rfl, ?_⟩) (by assumption) ?_
                  rotate_left
                  · (intro w hSw; (try dsimp only at hSw); (try go_simp); (try with_reducible rfl))
                  (try simp only [Act.put, List.getElem_toArray, List.getElem_cons_succ, List.getElem_cons_zero, List.setIfInBounds_toArray, List.set_cons_zero, List.set_cons_succ])
                  refine wpAnyH_done (by kernel_rfl) ?_ _
                  (go_wp2_with fail; go_meet; exact ⟨pS, pP, nS, aS, qS, cS, nP, aP, qP, cP, rfl, rfl, rfl, hBS, hBP, hvS, hvP, hE⟩)
                exact AllReadyH.nil
              exact AllReadyH.nil
            exact AllReadyH.nil
          exact AllReadyH.nil
        refine AllReadyH.cons (o := _) rfl (fun K hK => ?_) ?_
        · go_simp
          have hy : Ext (y61) ((y61).alloc (.cells #[.bool false, .slice none 0 0] 24)) := Ext.alloc _ _; have hqP : x29.heap.size ≤ y61.heap.size := hE.size; have hE := hE.trans hy; have hdSP : pS < y61.heap.size := hBS.lt; have hBS := hBS.ext hy; have hvm := hvm.ext hy; have hBP : Blk ((y61).alloc (.cells #[.bool false, .slice none 0 0] 24)) y61.heap.size #[.bool false, .slice none 0 0] 24 := Blk.new0 _ _ _; generalize (y61).alloc (.cells #[.bool false, .slice none 0 0] 24) = y71 at *; generalize y61.heap.size = pP at *
          refine hK.out _ _ ?_ (fun hHeld2 => ?_)
          · exact ⟨cell_ext hE dc0, cell_ext hE dc1, cell_ext hE dc2, cell_ext hE dc3, cell_ext hE dc4, cell_ext hE dc5⟩
          clear hK K hHeld
          have hHeld := hHeld2
          clear hHeld2
          (try simp only [Act.put, List.getElem_toArray, List.getElem_cons_succ, List.getElem_cons_zero, List.setIfInBounds_toArray, List.set_cons_zero, List.set_cons_succ])
          refine wpAnyH_ready (rs := [4]) (by kernel_rfl) (by simp) ?_
          refine AllReadyH.cons (o := _) rfl (fun K hK => ?_) ?_
          · go_simp
            (with_reducible refine (calc_add pc _ (KC.out.ext hE) hvm (Vr.out.ext hE) Lk.out Lr.out Lj.out).mono ?_); rintro e y72 ⟨vn, rfl, hvn, hy⟩; have hE := hE.trans hy; have hBS := hBS.ext hy; have hvm := hvm.ext hy; have hBP := hBP.ext hy; have hvn := hvn.val
            refine hK.out _ _ ?_ (fun hHeld2 => ?_)
            · exact ⟨cell_ext hE dc0, cell_ext hE dc1, cell_ext hE dc2, cell_ext hE dc3, cell_ext hE dc4, cell_ext hE dc5⟩
            clear hK K hHeld
            have hHeld := hHeld2
            clear hHeld2
            (try simp only [Act.put, List.getElem_toArray, List.getElem_cons_succ, List.getElem_cons_zero, List.setIfInBounds_toArray, List.set_cons_zero, List.set_cons_succ])
            refine wpAnyH_ready (rs := [6]) (by kernel_rfl) (by simp) ?_
            refine AllReadyH.cons (o := _) rfl (fun K hK => ?_) ?_
            · go_simp
              (with_reducible refine (div_any hvn (Vb.out.ext hE) Lj.out Lb.out HB0.out).mono ?_); rintro e y73 ⟨vS, vP, rfl, hvS, hvP, hy⟩; have hE := hE.trans hy; have hBS := hBS.ext hy; have hvm := hvm.ext hy; have hBP := hBP.ext hy; have hvn := hvn.ext hy; rw [HU.out.1] at hvS; rw [HU.out.2] at hvP; obtain ⟨nS, aS, qS, cS, rfl⟩ := hvS.form; obtain ⟨nP, aP, qP, cP, rfl⟩ := hvP.form
              refine hK.out _ _ ?_ (fun hHeld2 => ?_)
              · exact ⟨cell_ext hE dc0, cell_ext hE dc1, cell_ext hE dc2, cell_ext hE dc3, cell_ext hE dc4, cell_ext hE dc5⟩
              clear hK K hHeld
              have hHeld := hHeld2
              clear hHeld2
              (try simp only [Act.put, List.getElem_toArray, List.getElem_cons_succ, List.getElem_cons_zero, List.setIfInBounds_toArray, List.set_cons_zero, List.set_cons_succ])
              refine wpAnyH_take (i := 7) (oi := _) (v := ?_) rfl (by kernel_rfl) (by kernel_rfl) (by kernel_rfl) (fun _ _ _ h => h) (Or.inl ⟨by rfl, ?_⟩) (by assumption) ?_
              rotate_left
              · (intro w hSw; (try dsimp only at hSw); (try go_simp); (try with_reducible rfl))
              (try simp only [Act.put, List.getElem_toArray, List.getElem_cons_succ, List.getElem_cons_zero, List.setIfInBounds_toArray, List.set_cons_zero, List.set_cons_succ])
              refine wpAnyH_take (i := 8) (oi := _) (v := ?_) rfl (by kernel_rfl) (by kernel_rfl) (by kernel_rfl) (fun _ _ _ h => h) (Or.inl ⟨by rfl, ?_⟩) (by assumption) ?_
              rotate_left
              · (intro w hSw; (try dsimp only at hSw); (try go_simp); (try with_reducible rfl))
              (try simp only [Act.put, List.getElem_toArray, List.getElem_cons_succ, List.getElem_cons_zero, List.setIfInBounds_toArray, List.set_cons_zero, List.set_cons_succ])
              refine wpAnyH_take (i := 9) (oi := _) (v := ?_) rfl (by kernel_rfl) (by kernel_rfl) (by kernel_rfl) (fun _ _ _ h => h) (Or.inl ⟨by rfl, ?_⟩) (by assumption) ?_
              rotate_left
              · (intro w hSw; (try dsimp only at hSw); (try go_simp); (try with_reducible rfl))
              (try simp only [Act.put, List.getElem_toArray, List.getElem_cons_succ, List.getElem_cons_zero, List.setIfInBounds_toArray, List.set_cons_zero, List.set_cons_succ])
              refine wpAnyH_take (i := 10) (oi := _) (v := ?_) rfl (by kernel_rfl) (by kernel_rfl) (by kernel_rfl) (fun _ _ _ h => h) (Or.inl ⟨by rfl, ?_⟩) (by assumption) ?_
              rotate_left
              · (intro w hSw; (try dsimp only at hSw); (try go_simp); (try with_reducible rfl))
              (try simp only [Act.put, List.getElem_toArray, List.getElem_cons_succ, List.getElem_cons_zero, List.setIfInBounds_toArray, List.set_cons_zero, List.set_cons_succ])
              refine wpAnyH_ready (rs := [13]) (by kernel_rfl) (by simp) ?_
              refine AllReadyH.cons (o := _) rfl (fun K hK => ?_) ?_
              · go_simp
                have g0 := hBS.cell (i := 0) (v := .bool false) rfl; have g1 := (hBS.set 0 (.bool nS)).cell (i := 1) (v := .slice none 0 0) rfl; have q0 := hBS.free 0; have q1 := (hBS.set 0 (.bool nS)).free 1; go_simp; have hE := (hE.set (p := ⟨pS, 0, none⟩) hqS (.bool nS)).set (p := ⟨pS, 1, none⟩) hqS (.slice aS qS cS); have hvm := (hvm.box hBS 0 (.bool nS)).box (hBS.set 0 (.bool nS)) 1 (.slice aS qS cS); have hBP := (hBP.other (p := ⟨pS, 0, none⟩) (by dsimp only; omega) (.bool nS)).other (p := ⟨pS, 1, none⟩) (by dsimp only; omega) (.slice aS qS cS); have hvn := (hvn.box hBS 0 (.bool nS)).box (hBS.set 0 (.bool nS)) 1 (.slice aS qS cS); have hvS := (hvS.box hBS 0 (.bool nS)).box (hBS.set 0 (.bool nS)) 1 (.slice aS qS cS); have hvP := (hvP.box hBS 0 (.bool nS)).box (hBS.set 0 (.bool nS)) 1 (.slice aS qS cS); have hBS := (hBS.set 0 (.bool nS)).set 1 (.slice aS qS cS); clear g0 g1 q0 q1; generalize ((y73).setCell ⟨pS, 0, none⟩ (.bool nS)).setCell ⟨pS, 1, none⟩ (.slice aS qS cS) = y74 at *
                refine hK.out _ _ ?_ (fun hHeld2 => ?_)
                · exact ⟨cell_ext hE dc0, cell_ext hE dc1, cell_ext hE dc2, cell_ext hE dc3, cell_ext hE dc4, cell_ext hE dc5⟩
                clear hK K hHeld
                have hHeld := hHeld2
                clear hHeld2
                (try simp only [Act.put, List.getElem_toArray, List.getElem_cons_succ, List.getElem_cons_zero, List.setIfInBounds_toArray, List.set_cons_zero, List.set_cons_succ])
                refine wpAnyH_ready (rs := [14]) (by kernel_rfl) (by simp) ?_
                refine AllReadyH.cons (o := _) rfl (fun K hK => ?_) ?_
                · go_simp
                  have g0 := hBP.cell (i := 0) (v := .bool false) rfl; have g1 := (hBP.set 0 (.bool nP)).cell (i := 1) (v := .slice none 0 0) rfl; have q0 := hBP.free 0; have q1 := (hBP.set 0 (.bool nP)).free 1; go_simp; have hE := (hE.set (p := ⟨pP, 0, none⟩) hqP (.bool nP)).set (p := ⟨pP, 1, none⟩) hqP (.slice aP qP cP); have hBS := (hBS.other (p := ⟨pP, 0, none⟩) (by dsimp only; omega) (.bool nP)).other (p := ⟨pP, 1, none⟩) (by dsimp only; omega) (.slice aP qP cP); have hvm := (hvm.box hBP 0 (.bool nP)).box (hBP.set 0 (.bool nP)) 1 (.slice aP qP cP); have hvn := (hvn.box hBP 0 (.bool nP)).box (hBP.set 0 (.bool nP)) 1 (.slice aP qP cP); have hvS := (hvS.box hBP 0 (.bool nP)).box (hBP.set 0 (.bool nP)) 1 (.slice aP qP cP); have hvP := (hvP.box hBP 0 (.bool nP)).box (hBP.set 0 (.bool nP)) 1 (.slice aP qP cP); have hBP := (hBP.set 0 (.bool nP)).set 1 (.slice aP qP cP); clear g0 g1 q0 q1; generalize ((y74).setCell ⟨pP, 0, none⟩ (.bool nP)).setCell ⟨pP, 1, none⟩ (.slice aP qP cP) = y75 at *
                  refine hK.out _ _ ?_ (fun hHeld2 => ?_)
                  · exact ⟨cell_ext hE dc0, cell_ext hE dc1, cell_ext hE dc2, cell_ext hE dc3, cell_ext hE dc4, cell_ext hE dc5⟩
                  clear hK K hHeld
                  have hHeld := hHeld2
                  clear hHeld2
                  (try simp only [Act.put, List.getElem_toArray, List.getElem_cons_succ, List.getElem_cons_zero, List.setIfInBounds_toArray, List.set_cons_zero, List.set_cons_succ])
                  refine wpAnyH_take (i := 15) (oi := _) (v := ?_) rfl (by kernel_rfl) (by kernel_rfl) (by kernel_rfl) (fun _ _ _ h => h) (Or.inl ⟨by rfl, ?_⟩) (by assumption) ?_
                  rotate_left
                  · (intro w hSw; (try dsimp only at hSw); (try go_simp); (try with_reducible rfl))
                  (try simp only [Act.put, List.getElem_toArray, List.getElem_cons_succ, List.getElem_cons_zero, List.setIfInBounds_toArray, List.set_cons_zero, List.set_cons_succ])
                  refine wpAnyH_done (by kernel_rfl) ?_ _
                  (go_wp2_with fail; go_meet; exact ⟨pS, pP, nS, aS, qS, cS, nP, aP, qP, cP, rfl, rfl, rfl, hBS, hBP, hvS, hvP, hE⟩)
                exact AllReadyH.nil
              exact AllReadyH.nil
            exact AllReadyH.nil
          exact AllReadyH.nil
        exact AllReadyH.nil
      refine AllReadyH.cons (o := _) rfl (fun K hK => ?_) ?_
      · go_simp
        have hy : Ext (y60) ((y60).alloc (.cells #[.bool false, .slice none 0 0] 24)) := Ext.alloc _ _; have hqP : x29.heap.size ≤ y60.heap.size := hE.size; have hE := hE.trans hy; have hdSP : pS < y60.heap.size := hBS.lt; have hBS := hBS.ext hy; have hBP : Blk ((y60).alloc (.cells #[.bool false, .slice none 0 0] 24)) y60.heap.size #[.bool false, .slice none 0 0] 24 := Blk.new0 _ _ _; generalize (y60).alloc (.cells #[.bool false, .slice none 0 0] 24) = y76 at *; generalize y60.heap.size = pP at *
        refine hK.out _ _ ?_ (fun hHeld2 => ?_)
        · exact ⟨cell_ext hE dc0, cell_ext hE dc1, cell_ext hE dc2, cell_ext hE dc3, cell_ext hE dc4, cell_ext hE dc5⟩
        clear hK K hHeld
        have hHeld := hHeld2
        clear hHeld2
        (try simp only [Act.put, List.getElem_toArray, List.getElem_cons_succ, List.getElem_cons_zero, List.setIfInBounds_toArray, List.set_cons_zero, List.set_cons_succ])
        refine wpAnyH_ready (rs := [2]) (by kernel_rfl) (by simp) ?_
        refine AllReadyH.cons (o := _) rfl (fun K hK => ?_) ?_
        · go_simp
          (with_reducible refine (calc_mul pc _ (KC.out.ext hE) (Vq.out.ext hE) (Vb.out.ext hE) Lq.out Lb.out Lk.out).mono ?_); rintro e y77 ⟨vm, rfl, hvm, hy⟩; have hE := hE.trans hy; have hBS := hBS.ext hy; have hBP := hBP.ext hy; have hvm := hvm.val
          refine hK.out _ _ ?_ (fun hHeld2 => ?_)
          · exact ⟨cell_ext hE dc0, cell_ext hE dc1, cell_ext hE dc2, cell_ext hE dc3, cell_ext hE dc4, cell_ext hE dc5⟩
          clear hK K hHeld
          have hHeld := hHeld2
          clear hHeld2
          (try simp only [Act.put, List.getElem_toArray, List.getElem_cons_succ, List.getElem_cons_zero, List.setIfInBounds_toArray, List.set_cons_zero, List.set_cons_succ])
          refine wpAnyH_ready (rs := [4]) (by kernel_rfl) (by simp) ?_
          refine AllReadyH.cons (o := _) rfl (fun K hK => ?_) ?_
          · go_simp
            (with_reducible refine (calc_add pc _ (KC.out.ext hE) hvm (Vr.out.ext hE) Lk.out Lr.out Lj.out).mono ?_); rintro e y78 ⟨vn, rfl, hvn, hy⟩; have hE := hE.trans hy; have hBS := hBS.ext hy; have hBP := hBP.ext hy; have hvm := hvm.ext hy; have hvn := hvn.val
            refine hK.out _ _ ?_ (fun hHeld2 => ?_)
            · exact ⟨cell_ext hE dc0, cell_ext hE dc1, cell_ext hE dc2, cell_ext hE dc3, cell_ext hE dc4, cell_ext hE dc5⟩
            clear hK K hHeld
            have hHeld := hHeld2
            clear hHeld2
            (try simp only [Act.put, List.getElem_toArray, List.getElem_cons_succ, List.getElem_cons_zero, List.setIfInBounds_toArray, List.set_cons_zero, List.set_cons_succ])
            refine wpAnyH_ready (rs := [6]) (by kernel_rfl) (by simp) ?_
            refine AllReadyH.cons (o := _) rfl (fun K hK => ?_) ?_
            · go_simp
              (with_reducible refine (div_any hvn (Vb.out.ext hE) Lj.out Lb.out HB0.out).mono ?_); rintro e y79 ⟨vS, vP, rfl, hvS, hvP, hy⟩; have hE := hE.trans hy; have hBS := hBS.ext hy; have hBP := hBP.ext hy; have hvm := hvm.ext hy; have hvn := hvn.ext hy; rw [HU.out.1] at hvS; rw [HU.out.2] at hvP; obtain ⟨nS, aS, qS, cS, rfl⟩ := hvS.form; obtain ⟨nP, aP, qP, cP, rfl⟩ := hvP.form
              refine hK.out _ _ ?_ (fun hHeld2 => ?_)
              · exact ⟨cell_ext hE dc0, cell_ext hE dc1, cell_ext hE dc2, cell_ext hE dc3, cell_ext hE dc4, cell_ext hE dc5⟩
              clear hK K hHeld
              have hHeld := hHeld2
              clear hHeld2
              (try simp only [Act.put, List.getElem_toArray, List.getElem_cons_succ, List.getElem_cons_zero, List.setIfInBounds_toArray, List.set_cons_zero, List.set_cons_succ])
              refine wpAnyH_take (i := 7) (oi := _) (v := ?_) rfl (by kernel_rfl) (by kernel_rfl) (by kernel_rfl) (fun _ _ _ h => h) (Or.inl ⟨by rfl, ?_⟩) (by assumption) ?_
              rotate_left
              · (intro w hSw; (try dsimp only at hSw); (try go_simp); (try with_reducible rfl))
              (try simp only [Act.put, List.getElem_toArray, List.getElem_cons_succ, List.getElem_cons_zero, List.setIfInBounds_toArray, List.set_cons_zero, List.set_cons_succ])
              refine wpAnyH_take (i := 8) (oi := _) (v := ?_) rfl (by kernel_rfl) (by kernel_rfl) (by kernel_rfl) (fun _ _ _ h => h) (Or.inl ⟨by rfl, ?_⟩) (by assumption) ?_
              rotate_left
              · (intro w hSw; (try dsimp only at hSw); (try go_simp); (try with_reducible rfl))
              (try simp only [Act.put, List.getElem_toArray, List.getElem_cons_succ, List.getElem_cons_zero, List.setIfInBounds_toArray, List.set_cons_zero, List.set_cons_succ])
              refine wpAnyH_take (i := 9) (oi := _) (v := ?_) rfl (by kernel_rfl) (by kernel_rfl) (by kernel_rfl) (fun _ _ _ h => h) (Or.inl ⟨by rfl, ?_⟩) (by assumption) ?_
              rotate_left
              · (intro w hSw; (try dsimp only at hSw); (try go_simp); (try with_reducible rfl))
              (try simp only [Act.put, List.getElem_toArray, List.getElem_cons_succ, List.getElem_cons_zero, List.setIfInBounds_toArray, List.set_cons_zero, List.set_cons_succ])
              refine wpAnyH_take (i := 10) (oi := _) (v := ?_) rfl (by kernel_rfl) (by kernel_rfl) (by kernel_rfl) (fun _ _ _ h => h) (Or.inl ⟨by rfl, ?_⟩) (by assumption) ?_
              rotate_left
              · (intro w hSw; (try dsimp only at hSw); (try go_simp); (try with_reducible rfl))
              (try simp only [Act.put, List.getElem_toArray, List.getElem_cons_succ, List.getElem_cons_zero, List.setIfInBounds_toArray, List.set_cons_zero, List.set_cons_succ])
              refine wpAnyH_ready (rs := [13]) (by kernel_rfl) (by simp) ?_
              refine AllReadyH.cons (o := _) rfl (fun K hK => ?_) ?_
              · go_simp
                have g0 := hBS.cell (i := 0) (v := .bool false) rfl; have g1 := (hBS.set 0 (.bool nS)).cell (i := 1) (v := .slice none 0 0) rfl; have q0 := hBS.free 0; have q1 := (hBS.set 0 (.bool nS)).free 1; go_simp; have hE := (hE.set (p := ⟨pS, 0, none⟩) hqS (.bool nS)).set (p := ⟨pS, 1, none⟩) hqS (.slice aS qS cS); have hBP := (hBP.other (p := ⟨pS, 0, none⟩) (by dsimp only; omega) (.bool nS)).other (p := ⟨pS, 1, none⟩) (by dsimp only; omega) (.slice aS qS cS); have hvm := (hvm.box hBS 0 (.bool nS)).box (hBS.set 0 (.bool nS)) 1 (.slice aS qS cS); have hvn := (hvn.box hBS 0 (.bool nS)).box (hBS.set 0 (.bool nS)) 1 (.slice aS qS cS); have hvS := (hvS.box hBS 0 (.bool nS)).box (hBS.set 0 (.bool nS)) 1 (.slice aS qS cS); have hvP := (hvP.box hBS 0 (.bool nS)).box (hBS.set 0 (.bool nS)) 1 (.slice aS qS cS); have hBS := (hBS.set 0 (.bool nS)).set 1 (.slice aS qS cS); clear g0 g1 q0 q1; generalize ((y79).setCell ⟨pS, 0, none⟩ (.bool nS)).setCell ⟨pS, 1, none⟩ (.slice aS qS cS) = y80 at *
                refine hK.out _ _ ?_ (fun hHeld2 => ?_)
                · exact ⟨cell_ext hE dc0, cell_ext hE dc1, cell_ext hE dc2, cell_ext hE dc3, cell_ext hE dc4, cell_ext hE dc5⟩
                clear hK K hHeld
                have hHeld := hHeld2
                clear hHeld2
                (try simp only [Act.put, List.getElem_toArray, List.getElem_cons_succ, List.getElem_cons_zero, List.setIfInBounds_toArray, List.set_cons_zero, List.set_cons_succ])
                refine wpAnyH_ready (rs := [14]) (by kernel_rfl) (by simp) ?_
                refine AllReadyH.cons (o := _) rfl (fun K hK => ?_) ?_
                · go_simp
                  have g0 := hBP.cell (i := 0) (v := .bool false) rfl; have g1 := (hBP.set 0 (.bool nP)).cell (i := 1) (v := .slice none 0 0) rfl; have q0 := hBP.free 0; have q1 := (hBP.set 0 (.bool nP)).free 1; go_simp; have hE := (hE.set (p := ⟨pP, 0, none⟩) hqP (.bool nP)).set (p := ⟨pP, 1, none⟩) hqP (.slice aP qP cP); have hBS := (hBS.other (p := ⟨pP, 0, none⟩) (by dsimp only; omega) (.bool nP)).other (p := ⟨pP, 1, none⟩) (by dsimp only; omega) (.slice aP qP cP); have hvm := (hvm.box hBP 0 (.bool nP)).box (hBP.set 0 (.bool nP)) 1 (.slice aP qP cP); have hvn := (hvn.box hBP 0 (.bool nP)).box (hBP.set 0 (.bool nP)) 1 (.slice aP qP cP); have hvS := (hvS.box hBP 0 (.bool nP)).box (hBP.set 0 (.bool nP)) 1 (.slice aP qP cP); have hvP := (hvP.box hBP 0 (.bool nP)).box (hBP.set 0 (.bool nP)) 1 (.slice aP qP cP); have hBP := (hBP.set 0 (.bool nP)).set 1 (.slice aP qP cP); clear g0 g1 q0 q1; generalize ((y80).setCell ⟨pP, 0, none⟩ (.bool nP)).setCell ⟨pP, 1, none⟩ (.slice aP qP cP) = y81 at *
                  refine hK.out _ _ ?_ (fun hHeld2 => ?_)
                  · exact ⟨cell_ext hE dc0, cell_ext hE dc1, cell_ext hE dc2, cell_ext hE dc3, cell_ext hE dc4, cell_ext hE dc5⟩
                  clear hK K hHeld
                  have hHeld := hHeld2
                  clear hHeld2
                  (try simp only [Act.put, List.getElem_toArray, List.getElem_cons_succ, List.getElem_cons_zero, List.setIfInBounds_toArray, List.set_cons_zero, List.set_cons_succ])
                  refine wpAnyH_take (i := 15) (oi := _) (v := ?_) rfl (by kernel_rfl) (by kernel_rfl) (by kernel_rfl) (fun _ _ _ h => h) (Or.inl ⟨by rfl, ?_⟩) (by assumption) ?_
                  rotate_left
                  · (intro w hSw; (try dsimp only at hSw); (try go_simp); (try with_reducible rfl))
                  (try simp only [Act.put, List.getElem_toArray, List.getElem_cons_succ, List.getElem_cons_zero, List.setIfInBounds_toArray, List.set_cons_zero, List.set_cons_succ])
                  refine wpAnyH_done (by kernel_rfl) ?_ _
                  (go_wp2_with fail; go_meet; exact ⟨pS, pP, nS, aS, qS, cS, nP, aP, qP, cP, rfl, rfl, rfl, hBS, hBP, hvS, hvP, hE⟩)
                exact AllReadyH.nil
              exact AllReadyH.nil
            exact AllReadyH.nil
          exact AllReadyH.nil
        exact AllReadyH.nil
      exact AllReadyH.nil
    refine AllReadyH.cons (o := _) rfl (fun K hK => ?_) ?_
    · go_simp
      have hy : Ext (y0) ((y0).alloc (.cells #[.bool false, .slice none 0 0] 24)) := Ext.alloc _ _; have hqP : x29.heap.size ≤ y0.heap.size := hE.size; have hE := hE.trans hy; have hBP : Blk ((y0).alloc (.cells #[.bool false, .slice none 0 0] 24)) y0.heap.size #[.bool false, .slice none 0 0] 24 := Blk.new0 _ _ _; generalize (y0).alloc (.cells #[.bool false, .slice none 0 0] 24) = y82 at *; generalize y0.heap.size = pP at *
      refine hK.out _ _ ?_ (fun hHeld2 => ?_)
      · exact ⟨cell_ext hE dc0, cell_ext hE dc1, cell_ext hE dc2, cell_ext hE dc3, cell_ext hE dc4, cell_ext hE dc5⟩
      clear hK K hHeld
      have hHeld := hHeld2
      clear hHeld2
      (try simp only [Act.put, List.getElem_toArray, List.getElem_cons_succ, List.getElem_cons_zero, List.setIfInBounds_toArray, List.set_cons_zero, List.set_cons_succ])
      refine wpAnyH_ready (rs := [2, 11]) (by kernel_rfl) (by simp) ?_
      refine AllReadyH.cons (o := _) rfl (fun K hK => ?_) ?_
      · go_simp
        (with_reducible refine (calc_mul pc _ (KC.out.ext hE) (Vq.out.ext hE) (Vb.out.ext hE) Lq.out Lb.out Lk.out).mono ?_); rintro e y83 ⟨vm, rfl, hvm, hy⟩; have hE := hE.trans hy; have hBP := hBP.ext hy; have hvm := hvm.val
        refine hK.out _ _ ?_ (fun hHeld2 => ?_)
        · exact ⟨cell_ext hE dc0, cell_ext hE dc1, cell_ext hE dc2, cell_ext hE dc3, cell_ext hE dc4, cell_ext hE dc5⟩
        clear hK K hHeld
        have hHeld := hHeld2
        clear hHeld2
        (try simp only [Act.put, List.getElem_toArray, List.getElem_cons_succ, List.getElem_cons_zero, List.setIfInBounds_toArray, List.set_cons_zero, List.set_cons_succ])
        refine wpAnyH_ready (rs := [4, 11]) (by kernel_rfl) (by simp) ?_
        refine AllReadyH.cons (o := _) rfl (fun K hK => ?_) ?_
        · go_simp
          (with_reducible refine (calc_add pc _ (KC.out.ext hE) hvm (Vr.out.ext hE) Lk.out Lr.out Lj.out).mono ?_); rintro e y84 ⟨vn, rfl, hvn, hy⟩; have hE := hE.trans hy; have hBP := hBP.ext hy; have hvm := hvm.ext hy; have hvn := hvn.val
          refine hK.out _ _ ?_ (fun hHeld2 => ?_)
          · exact ⟨cell_ext hE dc0, cell_ext hE dc1, cell_ext hE dc2, cell_ext hE dc3, cell_ext hE dc4, cell_ext hE dc5⟩
          clear hK K hHeld
          have hHeld := hHeld2
          clear hHeld2
          (try simp only [Act.put, List.getElem_toArray, List.getElem_cons_succ, List.getElem_cons_zero, List.setIfInBounds_toArray, List.set_cons_zero, List.set_cons_succ])
          refine wpAnyH_ready (rs := [6, 11]) (by kernel_rfl) (by simp) ?_
          refine AllReadyH.cons (o := _) rfl (fun K hK => ?_) ?_
          · go_simp
            (with_reducible refine (div_any hvn (Vb.out.ext hE) Lj.out Lb.out HB0.out).mono ?_); rintro e y85 ⟨vS, vP, rfl, hvS, hvP, hy⟩; have hE := hE.trans hy; have hBP := hBP.ext hy; have hvm := hvm.ext hy; have hvn := hvn.ext hy; rw [HU.out.1] at hvS; rw [HU.out.2] at hvP; obtain ⟨nS, aS, qS, cS, rfl⟩ := hvS.form; obtain ⟨nP, aP, qP, cP, rfl⟩ := hvP.form
            refine hK.out _ _ ?_ (fun hHeld2 => ?_)
            · exact ⟨cell_ext hE dc0, cell_ext hE dc1, cell_ext hE dc2, cell_ext hE dc3, cell_ext hE dc4, cell_ext hE dc5⟩
            clear hK K hHeld
            have hHeld := hHeld2
            clear hHeld2
            (try simp only [Act.put, List.getElem_toArray, List.getElem_cons_succ, List.getElem_cons_zero, List.setIfInBounds_toArray, List.set_cons_zero, List.set_cons_succ])
            refine wpAnyH_take (i := 7) (oi := _) (v := ?_) rfl (by kernel_rfl) (by kernel_rfl) (by kernel_rfl) (fun _ _ _ h => h) (Or.inl ⟨by rfl, ?_⟩) (by assumption) ?_
            rotate_left
            · (intro w hSw; (try dsimp only at hSw); (try go_simp); (try with_reducible rfl))
            (try simp only [Act.put, List.getElem_toArray, List.getElem_cons_succ, List.getElem_cons_zero, List.setIfInBounds_toArray, List.set_cons_zero, List.set_cons_succ])
            refine wpAnyH_take (i := 8) (oi := _) (v := ?_) rfl (by kernel_rfl) (by kernel_rfl) (by kernel_rfl) (fun _ _ _ h => h) (Or.inl ⟨by rfl, ?_⟩) (by assumption) ?_
            rotate_left
            · (intro w hSw; (try dsimp only at hSw); (try go_simp); (try with_reducible rfl))
            (try simp only [Act.put, List.getElem_toArray, List.getElem_cons_succ, List.getElem_cons_zero, List.setIfInBounds_toArray, List.set_cons_zero, List.set_cons_succ])
            refine wpAnyH_take (i := 9) (oi := _) (v := ?_) rfl (by kernel_rfl) (by kernel_rfl) (by kernel_rfl) (fun _ _ _ h => h) (Or.inl ⟨by rfl, ?_⟩) (by assumption) ?_
            rotate_left
            · (intro w hSw; (try dsimp only at hSw); (try go_simp); (try with_reducible rfl))
            (try simp only [Act.put, List.getElem_toArray, List.getElem_cons_succ, List.getElem_cons_zero, List.setIfInBounds_toArray, List.set_cons_zero, List.set_cons_succ])
            refine wpAnyH_take (i := 10) (oi := _) (v := ?_) rfl (by kernel_rfl) (by kernel_rfl) (by kernel_rfl) (fun _ _ _ h => h) (Or.inl ⟨by rfl, ?_⟩) (by assumption) ?_
            rotate_left
            · (intro w hSw; (try dsimp only at hSw); (try go_simp); (try with_reducible rfl))
            (try simp only [Act.put, List.getElem_toArray, List.getElem_cons_succ, List.getElem_cons_zero, List.setIfInBounds_toArray, List.set_cons_zero, List.set_cons_succ])
            refine wpAnyH_ready (rs := [11]) (by kernel_rfl) (by simp) ?_
            refine AllReadyH.cons (o := _) rfl (fun K hK => ?_) ?_
            · go_simp
              have hy : Ext (y85) ((y85).alloc (.cells #[.bool false, .slice none 0 0] 24)) := Ext.alloc _ _; have hqS : x29.heap.size ≤ y85.heap.size := hE.size; have hE := hE.trans hy; have hdPS : pP < y85.heap.size := hBP.lt; have hBP := hBP.ext hy; have hvm := hvm.ext hy; have hvn := hvn.ext hy; have hvS := hvS.ext hy; have hvP := hvP.ext hy; have hBS : Blk ((y85).alloc (.cells #[.bool false, .slice none 0 0] 24)) y85.heap.size #[.bool false, .slice none 0 0] 24 := Blk.new0 _ _ _; generalize (y85).alloc (.cells #[.bool false, .slice none 0 0] 24) = y86 at *; generalize y85.heap.size = pS at *
              refine hK.out _ _ ?_ (fun hHeld2 => ?_)
              · exact ⟨cell_ext hE dc0, cell_ext hE dc1, cell_ext hE dc2, cell_ext hE dc3, cell_ext hE dc4, cell_ext hE dc5⟩
              clear hK K hHeld
              have hHeld := hHeld2
              clear hHeld2
              (try simp only [Act.put, List.getElem_toArray, List.getElem_cons_succ, List.getElem_cons_zero, List.setIfInBounds_toArray, List.set_cons_zero, List.set_cons_succ])
              refine wpAnyH_ready (rs := [13]) (by kernel_rfl) (by simp) ?_
              refine AllReadyH.cons (o := _) rfl (fun K hK => ?_) ?_
              · go_simp
                have g0 := hBS.cell (i := 0) (v := .bool false) rfl; have g1 := (hBS.set 0 (.bool nS)).cell (i := 1) (v := .slice none 0 0) rfl; have q0 := hBS.free 0; have q1 := (hBS.set 0 (.bool nS)).free 1; go_simp; have hE := (hE.set (p := ⟨pS, 0, none⟩) hqS (.bool nS)).set (p := ⟨pS, 1, none⟩) hqS (.slice aS qS cS); have hBP := (hBP.other (p := ⟨pS, 0, none⟩) (by dsimp only; omega) (.bool nS)).other (p := ⟨pS, 1, none⟩) (by dsimp only; omega) (.slice aS qS cS); have hvm := (hvm.box hBS 0 (.bool nS)).box (hBS.set 0 (.bool nS)) 1 (.slice aS qS cS); have hvn := (hvn.box hBS 0 (.bool nS)).box (hBS.set 0 (.bool nS)) 1 (.slice aS qS cS); have hvS := (hvS.box hBS 0 (.bool nS)).box (hBS.set 0 (.bool nS)) 1 (.slice aS qS cS); have hvP := (hvP.box hBS 0 (.bool nS)).box (hBS.set 0 (.bool nS)) 1 (.slice aS qS cS); have hBS := (hBS.set 0 (.bool nS)).set 1 (.slice aS qS cS); clear g0 g1 q0 q1; generalize ((y86).setCell ⟨pS, 0, none⟩ (.bool nS)).setCell ⟨pS, 1, none⟩ (.slice aS qS cS) = y87 at *
                refine hK.out _ _ ?_ (fun hHeld2 => ?_)
                · exact ⟨cell_ext hE dc0, cell_ext hE dc1, cell_ext hE dc2, cell_ext hE dc3, cell_ext hE dc4, cell_ext hE dc5⟩
                clear hK K hHeld
                have hHeld := hHeld2
                clear hHeld2
                (try simp only [Act.put, List.getElem_toArray, List.getElem_cons_succ, List.getElem_cons_zero, List.setIfInBounds_toArray, List.set_cons_zero, List.set_cons_succ])
                refine wpAnyH_ready (rs := [14]) (by kernel_rfl) (by simp) ?_
                refine AllReadyH.cons (o := _) rfl (fun K hK => ?_) ?_
                · go_simp
                  have g0 := hBP.cell (i := 0) (v := .bool false) rfl; have g1 := (hBP.set 0 (.bool nP)).cell (i := 1) (v := .slice none 0 0) rfl; have q0 := hBP.free 0; have q1 := (hBP.set 0 (.bool nP)).free 1; go_simp; have hE := (hE.set (p := ⟨pP, 0, none⟩) hqP (.bool nP)).set (p := ⟨pP, 1, none⟩) hqP (.slice aP qP cP); have hvm := (hvm.box hBP 0 (.bool nP)).box (hBP.set 0 (.bool nP)) 1 (.slice aP qP cP); have hvn := (hvn.box hBP 0 (.bool nP)).box (hBP.set 0 (.bool nP)) 1 (.slice aP qP cP); have hvS := (hvS.box hBP 0 (.bool nP)).box (hBP.set 0 (.bool nP)) 1 (.slice aP qP cP); have hvP := (hvP.box hBP 0 (.bool nP)).box (hBP.set 0 (.bool nP)) 1 (.slice aP qP cP); have hBS := (hBS.other (p := ⟨pP, 0, none⟩) (by dsimp only; omega) (.bool nP)).other (p := ⟨pP, 1, none⟩) (by dsimp only; omega) (.slice aP qP cP); have hBP := (hBP.set 0 (.bool nP)).set 1 (.slice aP qP cP); clear g0 g1 q0 q1; generalize ((y87).setCell ⟨pP, 0, none⟩ (.bool nP)).setCell ⟨pP, 1, none⟩ (.slice aP qP cP) = y88 at *
                  refine hK.out _ _ ?_ (fun hHeld2 => ?_)
                  · exact ⟨cell_ext hE dc0, cell_ext hE dc1, cell_ext hE dc2, cell_ext hE dc3, cell_ext hE dc4, cell_ext hE dc5⟩
                  clear hK K hHeld
                  have hHeld := hHeld2
                  clear hHeld2
                  (try simp only [Act.put, List.getElem_toArray, List.getElem_cons_succ, List.getElem_cons_zero, List.setIfInBounds_toArray, List.set_cons_zero, List.set_cons_succ])
                  refine wpAnyH_take (i := 15) (oi := _) (v := ?_) rfl (by kernel_rfl) (by kernel_rfl) (by kernel_rfl) (fun _ _ _ h => h) (Or.inl ⟨by rfl, ?_⟩) (by assumption) ?_
                  rotate_left
                  · (intro w hSw; (try dsimp only at hSw); (try go_simp); (try with_reducible rfl))
                  (try simp only [Act.put, List.getElem_toArray, List.getElem_cons_succ, List.getElem_cons_zero, List.setIfInBounds_toArray, List.set_cons_zero, List.set_cons_succ])
                  refine wpAnyH_done (by kernel_rfl) ?_ _
                  (go_wp2_with fail; go_meet; exact ⟨pS, pP, nS, aS, qS, cS, nP, aP, qP, cP, rfl, rfl, rfl, hBS, hBP, hvS, hvP, hE⟩)
                exact AllReadyH.nil
              exact AllReadyH.nil
            exact AllReadyH.nil
          refine AllReadyH.cons (o := _) rfl (fun K hK => ?_) ?_
          · go_simp
            have hy : Ext (y84) ((y84).alloc (.cells #[.bool false, .slice none 0 0] 24)) := Ext.alloc _ _; have hqS : x29.heap.size ≤ y84.heap.size := hE.size; have hE := hE.trans hy; have hdPS : pP < y84.heap.size := hBP.lt; have hBP := hBP.ext hy; have hvm := hvm.ext hy; have hvn := hvn.ext hy; have hBS : Blk ((y84).alloc (.cells #[.bool false, .slice none 0 0] 24)) y84.heap.size #[.bool false, .slice none 0 0] 24 := Blk.new0 _ _ _; generalize (y84).alloc (.cells #[.bool false, .slice none 0 0] 24) = y89 at *; generalize y84.heap.size = pS at *
            refine hK.out _ _ ?_ (fun hHeld2 => ?_)
            · exact ⟨cell_ext hE dc0, cell_ext hE dc1, cell_ext hE dc2, cell_ext hE dc3, cell_ext hE dc4, cell_ext hE dc5⟩
            clear hK K hHeld
            have hHeld := hHeld2
            clear hHeld2
            (try simp only [Act.put, List.getElem_toArray, List.getElem_cons_succ, List.getElem_cons_zero, List.setIfInBounds_toArray, List.set_cons_zero, List.set_cons_succ])
            refine wpAnyH_ready (rs := [6]) (by kernel_rfl) (by simp) ?_
            refine AllReadyH.cons (o := _) rfl (fun K hK => ?_) ?_
            · go_simp
              (with_reducible refine (div_any hvn (Vb.out.ext hE) Lj.out Lb.out HB0.out).mono ?_); rintro e y90 ⟨vS, vP, rfl, hvS, hvP, hy⟩; have hE := hE.trans hy; have hBP := hBP.ext hy; have hvm := hvm.ext hy; have hvn := hvn.ext hy; have hBS := hBS.ext hy; rw [HU.out.1] at hvS; rw [HU.out.2] at hvP; obtain ⟨nS, aS, qS, cS, rfl⟩ := hvS.form; obtain ⟨nP, aP, qP, cP, rfl⟩ := hvP.form
              refine hK.out _ _ ?_ (fun hHeld2 => ?_)
              · exact ⟨cell_ext hE dc0, cell_ext hE dc1, cell_ext hE dc2, cell_ext hE dc3, cell_ext hE dc4, cell_ext hE dc5⟩
              clear hK K hHeld
              have hHeld := hHeld2
              clear hHeld2
              (try simp only [Act.put, List.getElem_toArray, List.getElem_cons_succ, List.getElem_cons_zero, List.setIfInBounds_toArray, List.set_cons_zero, List.set_cons_succ])
              refine wpAnyH_take (i := 7) (oi := _) (v := ?_) rfl (by kernel_rfl) (by kernel_rfl) (by kernel_rfl) (fun _ _ _ h => h) (Or.inl ⟨by rfl, ?_⟩) (by assumption) ?_
              rotate_left
              · (intro w hSw; (try dsimp only at hSw); (try go_simp); (try with_reducible rfl))
              (try simp only [Act.put, List.getElem_toArray, List.getElem_cons_succ, List.getElem_cons_zero, List.setIfInBounds_toArray, List.set_cons_zero, List.set_cons_succ])
              refine wpAnyH_take (i := 8) (oi := _) (v := ?_) rfl (by kernel_rfl) (by kernel_rfl) (by kernel_rfl) (fun _ _ _ h => h) (Or.inl ⟨by rfl, ?_⟩) (by assumption) ?_
              rotate_left
              · (intro w hSw; (try dsimp only at hSw); (try go_simp); (try with_reducible rfl))
              (try simp only [Act.put, List.getElem_toArray, List.getElem_cons_succ, List.getElem_cons_zero, List.setIfInBounds_toArray, List.set_cons_zero, List.set_cons_succ])
              refine wpAnyH_take (i := 9) (oi := _) (v := ?_) rfl (by kernel_rfl) (by kernel_rfl) (by kernel_rfl) (fun _ _ _ h => h) (Or.inl ⟨by rfl, ?_⟩) (by assumption) ?_
              rotate_left
              · (intro w hSw; (try dsimp only at hSw); (try go_simp); (try with_reducible rfl))
              (try simp only [Act.put, List.getElem_toArray, List.getElem_cons_succ, List.getElem_cons_zero, List.setIfInBounds_toArray, List.set_cons_zero, List.set_cons_succ])
              refine wpAnyH_take (i := 10) (oi := _) (v := ?_) rfl (by kernel_rfl) (by kernel_rfl) (by kernel_rfl) (fun _ _ _ h => h) (Or.inl ⟨by rfl, ?_⟩) (by assumption) ?_
              rotate_left
              · (intro w hSw; (try dsimp only at hSw); (try go_simp); (try with_reducible rfl))
              (try simp only [Act.put, List.getElem_toArray, List.getElem_cons_succ, List.getElem_cons_zero, List.setIfInBounds_toArray, List.set_cons_zero, List.set_cons_succ])
              refine wpAnyH_ready (rs := [13]) (by kernel_rfl) (by simp) ?_
              refine AllReadyH.cons (o := _) rfl (fun K hK => ?_) ?_
              · go_simp
                have g0 := hBS.cell (i := 0) (v := .bool false) rfl; have g1 := (hBS.set 0 (.bool nS)).cell (i := 1) (v := .slice none 0 0) rfl; have q0 := hBS.free 0; have q1 := (hBS.set 0 (.bool nS)).free 1; go_simp; have hE := (hE.set (p := ⟨pS, 0, none⟩) hqS (.bool nS)).set (p := ⟨pS, 1, none⟩) hqS (.slice aS qS cS); have hBP := (hBP.other (p := ⟨pS, 0, none⟩) (by dsimp only; omega) (.bool nS)).other (p := ⟨pS, 1, none⟩) (by dsimp only; omega) (.slice aS qS cS); have hvm := (hvm.box hBS 0 (.bool nS)).box (hBS.set 0 (.bool nS)) 1 (.slice aS qS cS); have hvn := (hvn.box hBS 0 (.bool nS)).box (hBS.set 0 (.bool nS)) 1 (.slice aS qS cS); have hvS := (hvS.box hBS 0 (.bool nS)).box (hBS.set 0 (.bool nS)) 1 (.slice aS qS cS); have hvP := (hvP.box hBS 0 (.bool nS)).box (hBS.set 0 (.bool nS)) 1 (.slice aS qS cS); have hBS := (hBS.set 0 (.bool nS)).set 1 (.slice aS qS cS); clear g0 g1 q0 q1; generalize ((y90).setCell ⟨pS, 0, none⟩ (.bool nS)).setCell ⟨pS, 1, none⟩ (.slice aS qS cS) = y91 at *
                refine hK.out _ _ ?_ (fun hHeld2 => ?_)
                · exact ⟨cell_ext hE dc0, cell_ext hE dc1, cell_ext hE dc2, cell_ext hE dc3, cell_ext hE dc4, cell_ext hE dc5⟩
                clear hK K hHeld
                have hHeld := hHeld2
                clear hHeld2
                (try simp only [Act.put, List.getElem_toArray, List.getElem_cons_succ, List.getElem_cons_zero, List.setIfInBounds_toArray, List.set_cons_zero, List.set_cons_succ])
                refine wpAnyH_ready (rs := [14]) (by kernel_rfl) (by simp) ?_
                refine AllReadyH.cons (o := _) rfl (fun K hK => ?_) ?_
                · go_simp
                  have g0 := hBP.cell (i := 0) (v := .bool false) rfl; have g1 := (hBP.set 0 (.bool nP)).cell (i := 1) (v := .slice none 0 0) rfl; have q0 := hBP.free 0; have q1 := (hBP.set 0 (.bool nP)).free 1; go_simp; have hE := (hE.set (p := ⟨pP, 0, none⟩) hqP (.bool nP)).set (p := ⟨pP, 1, none⟩) hqP (.slice aP qP cP); have hvm := (hvm.box hBP 0 (.bool nP)).box (hBP.set 0 (.bool nP)) 1 (.slice aP qP cP); have hvn := (hvn.box hBP 0 (.bool nP)).box (hBP.set 0 (.bool nP)) 1 (.slice aP qP cP); have hBS := (hBS.other (p := ⟨pP, 0, none⟩) (by dsimp only; omega) (.bool nP)).other (p := ⟨pP, 1, none⟩) (by dsimp only; omega) (.slice aP qP cP); have hvS := (hvS.box hBP 0 (.bool nP)).box (hBP.set 0 (.bool nP)) 1 (.slice aP qP cP); have hvP := (hvP.box hBP 0 (.bool nP)).box (hBP.set 0 (.bool nP)) 1 (.slice aP qP cP); have hBP := (hBP.set 0 (.bool nP)).set 1 (.slice aP qP cP); clear g0 g1 q0 q1; generalize ((y91).setCell ⟨pP, 0, none⟩ (.bool nP)).setCell ⟨pP, 1, none⟩ (.slice aP qP cP) = y92 at *
                  refine hK.out _ _ ?_ (fun hHeld2 => ?_)
                  · exact ⟨cell_ext hE dc0, cell_ext hE dc1, cell_ext hE dc2, cell_ext hE dc3, cell_ext hE dc4, cell_ext hE dc5⟩
                  clear hK K hHeld
                  have hHeld := hHeld2
                  clear hHeld2
                  (try simp only [Act.put, List.getElem_toArray, List.getElem_cons_succ, List.getElem_cons_zero, List.setIfInBounds_toArray, List.set_cons_zero, List.set_cons_succ])
                  refine wpAnyH_take (i := 15) (oi := _) (v := ?_) rfl (by kernel_rfl) (by kernel_rfl) (by kernel_rfl) (fun _ _ _ h => h) (Or.inl ⟨by rfl, ?_⟩) (by assumption) ?_
                  rotate_left
                  · (intro w hSw; (try dsimp only at hSw); (try go_simp); (try with_reducible rfl))
                  (try simp only [Act.put, List.getElem_toArray, List.getElem_cons_succ, List.getElem_cons_zero, List.setIfInBounds_toArray, List.set_cons_zero, List.set_cons_succ])
                  refine wpAnyH_done (by kernel_rfl) ?_ _
                  (go_wp2_with fail; go_meet; exact ⟨pS, pP, nS, aS, qS, cS, nP, aP, qP, cP, rfl, rfl, rfl, hBS, hBP, hvS, hvP, hE⟩)
                exact AllReadyH.nil
              exact AllReadyH.nil
            exact AllReadyH.nil
          exact AllReadyH.nil
        refine AllReadyH.cons (o := _) rfl (fun K hK => ?_) ?_
        · go_simp
          have hy : Ext (y83) ((y83).alloc (.cells #[.bool false, .slice none 0 0] 24)) := Ext.alloc _ _; have hqS : x29.heap.size ≤ y83.heap.size := hE.size; have hE := hE.trans hy; have hdPS : pP < y83.heap.size := hBP.lt; have hBP := hBP.ext hy; have hvm := hvm.ext hy; have hBS : Blk ((y83).alloc (.cells #[.bool false, .slice none 0 0] 24)) y83.heap.size #[.bool false, .slice none 0 0] 24 := Blk.new0 _ _ _; generalize (y83).alloc (.cells #[.bool false, .slice none 0 0] 24) = y93 at *; generalize y83.heap.size = pS at *
          refine hK.out _ _ ?_ (fun hHeld2 => ?_)
          · exact ⟨cell_ext hE dc0, cell_ext hE dc1, cell_ext hE dc2, cell_ext hE dc3, cell_ext hE dc4, cell_ext hE dc5⟩
          clear hK K hHeld
          have hHeld := hHeld2
          clear hHeld2
          (try simp only [Act.put, List.getElem_toArray, List.getElem_cons_succ, List.getElem_cons_zero, List.setIfInBounds_toArray, List.set_cons_zero, List.set_cons_succ])
          refine wpAnyH_ready (rs := [4]) (by kernel_rfl) (by simp) ?_
          refine AllReadyH.cons (o := _) rfl (fun K hK => ?_) ?_
          · go_simp
            (with_reducible refine (calc_add pc _ (KC.out.ext hE) hvm (Vr.out.ext hE) Lk.out Lr.out Lj.out).mono ?_); rintro e y94 ⟨vn, rfl, hvn, hy⟩; have hE := hE.trans hy; have hBP := hBP.ext hy; have hvm := hvm.ext hy; have hBS := hBS.ext hy; have hvn := hvn.val
            refine hK.out _ _ ?_ (fun hHeld2 => ?_)
            · exact ⟨cell_ext hE dc0, cell_ext hE dc1, cell_ext hE dc2, cell_ext hE dc3, cell_ext hE dc4, cell_ext hE dc5⟩
            clear hK K hHeld
            have hHeld := hHeld2
            clear hHeld2
            (try simp only [Act.put, List.getElem_toArray, List.getElem_cons_succ, List.getElem_cons_zero, List.setIfInBounds_toArray, List.set_cons_zero, List.set_cons_succ])
            refine wpAnyH_ready (rs := [6]) (by kernel_rfl) (by simp) ?_
            refine AllReadyH.cons (o := _) rfl (fun K hK => ?_) ?_
            · go_simp
              (with_reducible refine (div_any hvn (Vb.out.ext hE) Lj.out Lb.out HB0.out).mono ?_); rintro e y95 ⟨vS, vP, rfl, hvS, hvP, hy⟩; have hE := hE.trans hy; have hBP := hBP.ext hy; have hvm := hvm.ext hy; have hBS := hBS.ext hy; have hvn := hvn.ext hy; rw [HU.out.1] at hvS; rw [HU.out.2] at hvP; obtain ⟨nS, aS, qS, cS, rfl⟩ := hvS.form; obtain ⟨nP, aP, qP, cP, rfl⟩ := hvP.form
              refine hK.out _ _ ?_ (fun hHeld2 => ?_)
              · exact ⟨cell_ext hE dc0, cell_ext hE dc1, cell_ext hE dc2, cell_ext hE dc3, cell_ext hE dc4, cell_ext hE dc5⟩
              clear hK K hHeld
              have hHeld := hHeld2
              clear hHeld2
              (try simp only [Act.put, List.getElem_toArray, List.getElem_cons_succ, List.getElem_cons_zero, List.setIfInBounds_toArray, List.set_cons_zero, List.set_cons_succ])
              refine wpAnyH_take (i := 7) (oi := _) (v := ?_) rfl (by kernel_rfl) (by kernel_rfl) (by kernel_rfl) (fun _ _ _ h => h) (Or.inl ⟨by rfl, ?_⟩) (by assumption) ?_
              rotate_left
              · (intro w hSw; (try dsimp only at hSw); (try go_simp); (try with_reducible rfl))
              (try simp only [Act.put, List.getElem_toArray, List.getElem_cons_succ, List.getElem_cons_zero, List.setIfInBounds_toArray, List.set_cons_zero, List.set_cons_succ])
              refine wpAnyH_take (i := 8) (oi := _) (v := ?_) rfl (by kernel_rfl) (by kernel_rfl) (by kernel_rfl) (fun _ _ _ h => h) (Or.inl ⟨by rfl, ?_⟩) (by assumption) ?_
              rotate_left
              · (intro w hSw; (try dsimp only at hSw); (try go_simp); (try with_reducible rfl))
              (try simp only [Act.put, List.getElem_toArray, List.getElem_cons_succ, List.getElem_cons_zero, List.setIfInBounds_toArray, List.set_cons_zero, List.set_cons_succ])
              refine wpAnyH_take (i := 9) (oi := _) (v := ?_) rfl (by kernel_rfl) (by kernel_rfl) (by kernel_rfl) (fun _ _ _ h => h) (Or.inl ⟨by rfl, ?_⟩) (by assumption) ?_
              rotate_left
              · (intro w hSw; (try dsimp only at hSw); (try go_simp); (try with_reducible rfl))
              (try simp only [Act.put, List.getElem_toArray, List.getElem_cons_succ, List.getElem_cons_zero, List.setIfInBounds_toArray, List.set_cons_zero, List.set_cons_succ])
              refine wpAnyH_take (i := 10) (oi := _) (v := ?_) rfl (by kernel_rfl) (by kernel_rfl) (by kernel_rfl) (fun _ _ _ h => h) (Or.inl ⟨by rfl, ?_⟩) (by assumption) ?_
              rotate_left
              · (intro w hSw; (try dsimp only at hSw); (try go_simp); (try with_reducible rfl))
              (try simp only [Act.put, List.getElem_toArray, List.getElem_cons_succ, List.getElem_cons_zero, List.setIfInBounds_toArray, List.set_cons_zero, List.set_cons_succ])
              refine wpAnyH_ready (rs := [13]) (by kernel_rfl) (by simp) ?_
              refine AllReadyH.cons (o := _) rfl (fun K hK => ?_) ?_
              · go_simp
                have g0 := hBS.cell (i := 0) (v := .bool false) rfl; have g1 := (hBS.set 0 (.bool nS)).cell (i := 1) (v := .slice none 0 0) rfl; have q0 := hBS.free 0; have q1 := (hBS.set 0 (.bool nS)).free 1; go_simp; have hE := (hE.set (p := ⟨pS, 0, none⟩) hqS (.bool nS)).set (p := ⟨pS, 1, none⟩) hqS (.slice aS qS cS); have hBP := (hBP.other (p := ⟨pS, 0, none⟩) (by dsimp only; omega) (.bool nS)).other (p := ⟨pS, 1, none⟩) (by dsimp only; omega) (.slice aS qS cS); have hvm := (hvm.box hBS 0 (.bool nS)).box (hBS.set 0 (.bool nS)) 1 (.slice aS qS cS); have hvn := (hvn.box hBS 0 (.bool nS)).box (hBS.set 0 (.bool nS)) 1 (.slice aS qS cS); have hvS := (hvS.box hBS 0 (.bool nS)).box (hBS.set 0 (.bool nS)) 1 (.slice aS qS cS); have hvP := (hvP.box hBS 0 (.bool nS)).box (hBS.set 0 (.bool nS)) 1 (.slice aS qS cS); have hBS := (hBS.set 0 (.bool nS)).set 1 (.slice aS qS cS); clear g0 g1 q0 q1; generalize ((y95).setCell ⟨pS, 0, none⟩ (.bool nS)).setCell ⟨pS, 1, none⟩ (.slice aS qS cS) = y96 at *
                refine hK.out _ _ ?_ (fun hHeld2 => ?_)
                · exact ⟨cell_ext hE dc0, cell_ext hE dc1, cell_ext hE dc2, cell_ext hE dc3, cell_ext hE dc4, cell_ext hE dc5⟩
                clear hK K hHeld
                have hHeld := hHeld2
                clear hHeld2
                (try simp only [Act.put, List.getElem_toArray, List.getElem_cons_succ, List.getElem_cons_zero, List.setIfInBounds_toArray, List.set_cons_zero, List.set_cons_succ])
                refine wpAnyH_ready (rs := [14]) (by kernel_rfl) (by simp) ?_
                refine AllReadyH.cons (o := _) rfl (fun K hK => ?_) ?_
                · go_simp
                  have g0 := hBP.cell (i := 0) (v := .bool false) rfl; have g1 := (hBP.set 0 (.bool nP)).cell (i := 1) (v := .slice none 0 0) rfl; have q0 := hBP.free 0; have q1 := (hBP.set 0 (.bool nP)).free 1; go_simp; have hE := (hE.set (p := ⟨pP, 0, none⟩) hqP (.bool nP)).set (p := ⟨pP, 1, none⟩) hqP (.slice aP qP cP); have hvm := (hvm.box hBP 0 (.bool nP)).box (hBP.set 0 (.bool nP)) 1 (.slice aP qP cP); have hBS := (hBS.other (p := ⟨pP, 0, none⟩) (by dsimp only; omega) (.bool nP)).other (p := ⟨pP, 1, none⟩) (by dsimp only; omega) (.slice aP qP cP); have hvn := (hvn.box hBP 0 (.bool nP)).box (hBP.set 0 (.bool nP)) 1 (.slice aP qP cP); have hvS := (hvS.box hBP 0 (.bool nP)).box (hBP.set 0 (.bool nP)) 1 (.slice aP qP cP); have hvP := (hvP.box hBP 0 (.bool nP)).box (hBP.set 0 (.bool nP)) 1 (.slice aP qP cP); have hBP := (hBP.set 0 (.bool nP)).set 1 (.slice aP qP cP); clear g0 g1 q0 q1; generalize ((y96).setCell ⟨pP, 0, none⟩ (.bool nP)).setCell ⟨pP, 1, none⟩ (.slice aP qP cP) = y97 at *
                  refine hK.out _ _ ?_ (fun hHeld2 => ?_)
                  · exact ⟨cell_ext hE dc0, cell_ext hE dc1, cell_ext hE dc2, cell_ext hE dc3, cell_ext hE dc4, cell_ext hE dc5⟩
                  clear hK K hHeld
                  have hHeld := hHeld2
                  clear hHeld2
                  (try simp only [Act.put, List.getElem_toArray, List.getElem_cons_succ, List.getElem_cons_zero, List.setIfInBounds_toArray, List.set_cons_zero, List.set_cons_succ])
                  refine wpAnyH_take (i := 15) (oi := _) (v := ?_) rfl (by kernel_rfl) (by kernel_rfl) (by kernel_rfl) (fun _ _ _ h => h) (Or.inl ⟨by rfl, ?_⟩) (by assumption) ?_
                  rotate_left
                  · (intro w hSw; (try dsimp only at hSw); (try go_simp); (try with_reducible rfl))
                  (try simp only [Act.put, List.getElem_toArray, List.getElem_cons_succ, List.getElem_cons_zero, List.setIfInBounds_toArray, List.set_cons_zero, List.set_cons_succ])
                  refine wpAnyH_done (by kernel_rfl) ?_ _
                  (go_wp2_with fail; go_meet; exact ⟨pS, pP, nS, aS, qS, cS, nP, aP, qP, cP, rfl, rfl, rfl, hBS, hBP, hvS, hvP, hE⟩)
                exact AllReadyH.nil
              exact AllReadyH.nil
            exact AllReadyH.nil
          exact AllReadyH.nil
        exact AllReadyH.nil
      refine AllReadyH.cons (o := _) rfl (fun K hK => ?_) ?_
      · go_simp
        have hy : Ext (y82) ((y82).alloc (.cells #[.bool false, .slice none 0 0] 24)) := Ext.alloc _ _; have hqS : x29.heap.size ≤ y82.heap.size := hE.size; have hE := hE.trans hy; have hdPS : pP < y82.heap.size := hBP.lt; have hBP := hBP.ext hy; have hBS : Blk ((y82).alloc (.cells #[.bool false, .slice none 0 0] 24)) y82.heap.size #[.bool false, .slice none 0 0] 24 := Blk.new0 _ _ _; generalize (y82).alloc (.cells #[.bool false, .slice none 0 0] 24) = y98 at *; generalize y82.heap.size = pS at *
        refine hK.out _ _ ?_ (fun hHeld2 => ?_)
        · exact ⟨cell_ext hE dc0, cell_ext hE dc1, cell_ext hE dc2, cell_ext hE dc3, cell_ext hE dc4, cell_ext hE dc5⟩
        clear hK K hHeld
        have hHeld := hHeld2
        clear hHeld2
        (try simp only [Act.put, List.getElem_toArray, List.getElem_cons_succ, List.getElem_cons_zero, List.setIfInBounds_toArray, List.set_cons_zero, List.set_cons_succ])
        refine wpAnyH_ready (rs := [2]) (by kernel_rfl) (by simp) ?_
        refine AllReadyH.cons (o := _) rfl (fun K hK => ?_) ?_
        · go_simp
          (with_reducible refine (calc_mul pc _ (KC.out.ext hE) (Vq.out.ext hE) (Vb.out.ext hE) Lq.out Lb.out Lk.out).mono ?_); rintro e y99 ⟨vm, rfl, hvm, hy⟩; have hE := hE.trans hy; have hBP := hBP.ext hy; have hBS := hBS.ext hy; have hvm := hvm.val
          refine hK.out _ _ ?_ (fun hHeld2 => ?_)
          · exact ⟨cell_ext hE dc0, cell_ext hE dc1, cell_ext hE dc2, cell_ext hE dc3, cell_ext hE dc4, cell_ext hE dc5⟩
          clear hK K hHeld
          have hHeld := hHeld2
          clear hHeld2
          (try simp only [Act.put, List.getElem_toArray, List.getElem_cons_succ, List.getElem_cons_zero, List.setIfInBounds_toArray, List.set_cons_zero, List.set_cons_succ])
          refine wpAnyH_ready (rs := [4]) (by kernel_rfl) (by simp) ?_
          refine AllReadyH.cons (o := _) rfl (fun K hK => ?_) ?_
          · go_simp
            (with_reducible refine (calc_add pc _ (KC.out.ext hE) hvm (Vr.out.ext hE) Lk.out Lr.out Lj.out).mono ?_); rintro e y100 ⟨vn, rfl, hvn, hy⟩; have hE := hE.trans hy; have hBP := hBP.ext hy; have hBS := hBS.ext hy; have hvm := hvm.ext hy; have hvn := hvn.val
            refine hK.out _ _ ?_ (fun hHeld2 => ?_)
            · exact ⟨cell_ext hE dc0, cell_ext hE dc1, cell_ext hE dc2, cell_ext hE dc3, cell_ext hE dc4, cell_ext hE dc5⟩
            clear hK K hHeld
            have hHeld := hHeld2
            clear hHeld2
            (try simp only [Act.put, List.getElem_toArray, List.getElem_cons_succ, List.getElem_cons_zero, List.setIfInBounds_toArray, List.set_cons_zero, List.set_cons_succ])
            refine wpAnyH_ready (rs := [6]) (by kernel_rfl) (by simp) ?_
            refine AllReadyH.cons (o := _) rfl (fun K hK => ?_) ?_
            · go_simp
              (with_reducible refine (div_any hvn (Vb.out.ext hE) Lj.out Lb.out HB0.out).mono ?_); rintro e y101 ⟨vS, vP, rfl, hvS, hvP, hy⟩; have hE := hE.trans hy; have hBP := hBP.ext hy; have hBS := hBS.ext hy; have hvm := hvm.ext hy; have hvn := hvn.ext hy; rw [HU.out.1] at hvS; rw [HU.out.2] at hvP; obtain ⟨nS, aS, qS, cS, rfl⟩ := hvS.form; obtain ⟨nP, aP, qP, cP, rfl⟩ := hvP.form
              refine hK.out _ _ ?_ (fun hHeld2 => ?_)
              · exact ⟨cell_ext hE dc0, cell_ext hE dc1, cell_ext hE dc2, cell_ext hE dc3, cell_ext hE dc4, cell_ext hE dc5⟩
              clear hK K hHeld
              have hHeld := hHeld2
              clear hHeld2
              (try simp only [Act.put, List.getElem_toArray, List.getElem_cons_succ, List.getElem_cons_zero, List.setIfInBounds_toArray, List.set_cons_zero, List.set_cons_succ])
              refine wpAnyH_take (i := 7) (oi := _) (v := ?_) rfl (by kernel_rfl) (by kernel_rfl) (by kernel_rfl) (fun _ _ _ h => h) (Or.inl ⟨by rfl, ?_⟩) (by assumption) ?_
              rotate_left
              · (intro w hSw; (try dsimp only at hSw); (try go_simp); (try with_reducible rfl))
              (try simp only [Act.put, List.getElem_toArray, List.getElem_cons_succ, List.getElem_cons_zero, List.setIfInBounds_toArray, List.set_cons_zero, List.set_cons_succ])
              refine wpAnyH_take (i := 8) (oi := _) (v := ?_) rfl (by kernel_rfl) (by kernel_rfl) (by kernel_rfl) (fun _ _ _ h => h) (Or.inl ⟨by rfl, ?_⟩) (by assumption) ?_
              rotate_left
              · (intro w hSw; (try dsimp only at hSw); (try go_simp); (try with_reducible rfl))
              (try simp only [Act.put, List.getElem_toArray, List.getElem_cons_succ, List.getElem_cons_zero, List.setIfInBounds_toArray, List.set_cons_zero, List.set_cons_succ])
              refine wpAnyH_take (i := 9) (oi := _) (v := ?_) rfl (by kernel_rfl) (by kernel_rfl) (by kernel_rfl) (fun _ _ _ h => h) (Or.inl ⟨by rfl, ?_⟩) (by assumption) ?_
              rotate_left
              · (intro w hSw; (try dsimp only at hSw); (try go_simp); (try with_reducible rfl))
              (try simp only [Act.put, List.getElem_toArray, List.getElem_cons_succ, List.getElem_cons_zero, List.setIfInBounds_toArray, List.set_cons_zero, List.set_cons_succ])
              refine wpAnyH_take (i := 10) (oi := _) (v := ?_) rfl (by kernel_rfl) (by kernel_rfl) (by kernel_rfl) (fun _ _ _ h => h) (Or.inl ⟨by rfl, ?_⟩) (by assumption) ?_
              rotate_left
              · (intro w hSw; (try dsimp only at hSw); (try go_simp); (try with_reducible rfl))
              (try simp only [Act.put, List.getElem_toArray, List.getElem_cons_succ, List.getElem_cons_zero, List.setIfInBounds_toArray, List.set_cons_zero, List.set_cons_succ])
              refine wpAnyH_ready (rs := [13]) (by kernel_rfl) (by simp) ?_
              refine AllReadyH.cons (o := _) rfl (fun K hK => ?_) ?_
              · go_simp
                have g0 := hBS.cell (i := 0) (v := .bool false) rfl; have g1 := (hBS.set 0 (.bool nS)).cell (i := 1) (v := .slice none 0 0) rfl; have q0 := hBS.free 0; have q1 := (hBS.set 0 (.bool nS)).free 1; go_simp; have hE := (hE.set (p := ⟨pS, 0, none⟩) hqS (.bool nS)).set (p := ⟨pS, 1, none⟩) hqS (.slice aS qS cS); have hBP := (hBP.other (p := ⟨pS, 0, none⟩) (by dsimp only; omega) (.bool nS)).other (p := ⟨pS, 1, none⟩) (by dsimp only; omega) (.slice aS qS cS); have hvm := (hvm.box hBS 0 (.bool nS)).box (hBS.set 0 (.bool nS)) 1 (.slice aS qS cS); have hvn := (hvn.box hBS 0 (.bool nS)).box (hBS.set 0 (.bool nS)) 1 (.slice aS qS cS); have hvS := (hvS.box hBS 0 (.bool nS)).box (hBS.set 0 (.bool nS)) 1 (.slice aS qS cS); have hvP := (hvP.box hBS 0 (.bool nS)).box (hBS.set 0 (.bool nS)) 1 (.slice aS qS cS); have hBS := (hBS.set 0 (.bool nS)).set 1 (.slice aS qS cS); clear g0 g1 q0 q1; generalize ((y101).setCell ⟨pS, 0, none⟩ (.bool nS)).setCell ⟨pS, 1, none⟩ (.slice aS qS cS) = y102 at *
                refine hK.out _ _ ?_ (fun hHeld2 => ?_)
                · exact ⟨cell_ext hE dc0, cell_ext hE dc1, cell_ext hE dc2, cell_ext hE dc3, cell_ext hE dc4, cell_ext hE dc5⟩
                clear hK K hHeld
                have hHeld := hHeld2
                clear hHeld2
                (try simp only [Act.put, List.getElem_toArray, List.getElem_cons_succ, List.getElem_cons_zero, List.setIfInBounds_toArray, List.set_cons_zero, List.set_cons_succ])
                refine wpAnyH_ready (rs := [14]) (by kernel_rfl) (by simp) ?_
                refine AllReadyH.cons (o := _) rfl (fun K hK => ?_) ?_
                · go_simp
                  have g0 := hBP.cell (i := 0) (v := .bool false) rfl; have g1 := (hBP.set 0 (.bool nP)).cell (i := 1) (v := .slice none 0 0) rfl; have q0 := hBP.free 0; have q1 := (hBP.set 0 (.bool nP)).free 1; go_simp; have hE := (hE.set (p := ⟨pP, 0, none⟩) hqP (.bool nP)).set (p := ⟨pP, 1, none⟩) hqP (.slice aP qP cP); have hBS := (hBS.other (p := ⟨pP, 0, none⟩) (by dsimp only; omega) (.bool nP)).other (p := ⟨pP, 1, none⟩) (by dsimp only; omega) (.slice aP qP cP); have hvm := (hvm.box hBP 0 (.bool nP)).box (hBP.set 0 (.bool nP)) 1 (.slice aP qP cP); have hvn := (hvn.box hBP 0 (.bool nP)).box (hBP.set 0 (.bool nP)) 1 (.slice aP qP cP); have hvS := (hvS.box hBP 0 (.bool nP)).box (hBP.set 0 (.bool nP)) 1 (.slice aP qP cP); have hvP := (hvP.box hBP 0 (.bool nP)).box (hBP.set 0 (.bool nP)) 1 (.slice aP qP cP); have hBP := (hBP.set 0 (.bool nP)).set 1 (.slice aP qP cP); clear g0 g1 q0 q1; generalize ((y102).setCell ⟨pP, 0, none⟩ (.bool nP)).setCell ⟨pP, 1, none⟩ (.slice aP qP cP) = y103 at *
                  refine hK.out _ _ ?_ (fun hHeld2 => ?_)
                  · exact ⟨cell_ext hE dc0, cell_ext hE dc1, cell_ext hE dc2, cell_ext hE dc3, cell_ext hE dc4, cell_ext hE dc5⟩
                  clear hK K hHeld
                  have hHeld := hHeld2
                  clear hHeld2
                  (try simp only [Act.put, List.getElem_toArray, List.getElem_cons_succ, List.getElem_cons_zero, List.setIfInBounds_toArray, List.set_cons_zero, List.set_cons_succ])
                  refine wpAnyH_take (i := 15) (oi := _) (v := ?_) rfl (by kernel_rfl) (by kernel_rfl) (by kernel_rfl) (fun _ _ _ h => h) (Or.inl ⟨by rfl, ?_⟩) (by assumption) ?_
                  rotate_left
                  · (intro w hSw; (try dsimp only at hSw); (try go_simp); (try with_reducible rfl))
                  (try simp only [Act.put, List.getElem_toArray, List.getElem_cons_succ, List.getElem_cons_zero, List.setIfInBounds_toArray, List.set_cons_zero, List.set_cons_succ])
                  refine wpAnyH_done (by kernel_rfl) ?_ _
                  (go_wp2_with fail; go_meet; exact ⟨pS, pP, nS, aS, qS, cS, nP, aP, qP, cP, rfl, rfl, rfl, hBS, hBP, hvS, hvP, hE⟩)
                exact AllReadyH.nil
              exact AllReadyH.nil
            exact AllReadyH.nil
          exact AllReadyH.nil
        exact AllReadyH.nil
      exact AllReadyH.nil
    exact AllReadyH.nil
  case rest =>
  obtain ⟨pS, pP, nS, aS, qS, cS, nP, aP, qP, cP, rfl, rfl, rfl, hBS, hBP, hvS, hvP, hy⟩ := hcut
  have hx := hx.trans hy
  have Ka := Lib.hid (Ka.out.ext hy)
  have Kb := Lib.hid (Kb.out.ext hy)
  have Kq := Lib.hid (Kq.out.ext hy)
  have Kr := Lib.hid (Kr.out.ext hy)
  have Va := Lib.hid (Va.out.ext hy)
  have Vb := Lib.hid (Vb.out.ext hy)
  have Vq := Lib.hid (Vq.out.ext hy)
  have Vr := Lib.hid (Vr.out.ext hy)
  have KC := Lib.hid (KC.out.ext hy)
  have Ks := Lib.hid (Ks.out.ext hy)
  have Vs := Lib.hid (Vs.out.ext hy)
  have Vx := Lib.hid (Vx.out.ext hy)
  have Vy := Lib.hid (Vy.out.ext hy)
  have Kx := Lib.hid (Kx.out.ext hy)
  have Ky := Lib.hid (Ky.out.ext hy)
  have KS := Lib.hid hBS
  have KP := Lib.hid hBP
  have VS := Lib.hid hvS
  have VP := Lib.hid hvP
  clear hy hBS hBP hvS hvP
  have kc := KC.out.cell (i := 0) (v := .bool false) rfl
  have cS0 := KS.out.cell (i := 0) (v := .bool nS) rfl
  have cS1 := KS.out.cell (i := 1) (v := .slice aS qS cS) rfl
  have cq0 := Kq.out.cell (i := 0) (v := .bool nq) rfl
  have cq1 := Kq.out.cell (i := 1) (v := .slice aq qq cq) rfl
  go_wp2_with fail
  with_reducible refine (sameT VS.out Vq.out rfl).mono ?_
  rintro e x30 ⟨rfl, hy⟩
  have hx := hx.trans hy
  have Ka := Lib.hid (Ka.out.ext hy)
  have Kb := Lib.hid (Kb.out.ext hy)
  have Kq := Lib.hid (Kq.out.ext hy)
  have Kr := Lib.hid (Kr.out.ext hy)
  have Va := Lib.hid (Va.out.ext hy)
  have Vb := Lib.hid (Vb.out.ext hy)
  have Vq := Lib.hid (Vq.out.ext hy)
  have Vr := Lib.hid (Vr.out.ext hy)
  have KC := Lib.hid (KC.out.ext hy)
  have Ks := Lib.hid (Ks.out.ext hy)
  have Vs := Lib.hid (Vs.out.ext hy)
  have Vx := Lib.hid (Vx.out.ext hy)
  have Vy := Lib.hid (Vy.out.ext hy)
  have Kx := Lib.hid (Kx.out.ext hy)
  have Ky := Lib.hid (Ky.out.ext hy)
  have KS := Lib.hid (KS.out.ext hy)
  have KP := Lib.hid (KP.out.ext hy)
  have VS := Lib.hid (VS.out.ext hy)
  have VP := Lib.hid (VP.out.ext hy)
  clear hy
  clear cS0 cS1 cq0 cq1
  have cP0 := KP.out.cell (i := 0) (v := .bool nP) rfl
  have cP1 := KP.out.cell (i := 1) (v := .slice aP qP cP) rfl
  have cr0 := Kr.out.cell (i := 0) (v := .bool false) rfl
  have cr1 := Kr.out.cell (i := 1) (v := .slice ar qr cr) rfl
  go_wp2_with fail
  with_reducible refine (sameT VP.out Vr.out rfl).mono ?_
  rintro e x31 ⟨rfl, hy⟩
  have hx := hx.trans hy
  have Ka := Lib.hid (Ka.out.ext hy)
  have Kb := Lib.hid (Kb.out.ext hy)
  have Kq := Lib.hid (Kq.out.ext hy)
  have Kr := Lib.hid (Kr.out.ext hy)
  have Va := Lib.hid (Va.out.ext hy)
  have Vb := Lib.hid (Vb.out.ext hy)
  have Vq := Lib.hid (Vq.out.ext hy)
  have Vr := Lib.hid (Vr.out.ext hy)
  have KC := Lib.hid (KC.out.ext hy)
  have Ks := Lib.hid (Ks.out.ext hy)
  have Vs := Lib.hid (Vs.out.ext hy)
  have Vx := Lib.hid (Vx.out.ext hy)
  have Vy := Lib.hid (Vy.out.ext hy)
  have Kx := Lib.hid (Kx.out.ext hy)
  have Ky := Lib.hid (Ky.out.ext hy)
  have KS := Lib.hid (KS.out.ext hy)
  have KP := Lib.hid (KP.out.ext hy)
  have VS := Lib.hid (VS.out.ext hy)
  have VP := Lib.hid (VP.out.ext hy)
  clear hy
  clear cP0 cP1 cr0 cr1
  go_wp2_with fail
  go_ret
  exact ⟨rfl, hx⟩
theorem law_Dvd (na nb nq nr : Bool) (aa ab aq ar : Option Addr) (ca cb cq cr : Nat) (l m k j : List Int) (w : World) (ha : Ints w aa ca l) (hb : Ints w ab cb m) (hq : Ints w aq cq k) (hr : Ints w ar cr j) :
    Calls Tryd.prog 10 #[.agg #[.bool na, .slice aa l.length ca], .agg #[.bool nb, .slice ab m.length cb], .agg #[.bool nq, .slice aq k.length cq], .agg #[.bool nr, .slice ar j.length cr]] w fun e w' => e = .returned (.bool true) ∧ Ext w w' := by
  cases hv : ([⟨na, aa, ca, l⟩, ⟨nb, ab, cb, m⟩, ⟨nq, aq, cq, k⟩, ⟨nr, ar, cr, j⟩] : List BigA).any (fun x => !okA x)
  · have hv' : ∀ x ∈ ([⟨na, aa, ca, l⟩, ⟨nb, ab, cb, m⟩, ⟨nq, aq, cq, k⟩, ⟨nr, ar, cr, j⟩] : List BigA), okA x = true := fun x hx => by
      have := List.any_eq_false.1 hv x hx
      simpa using this
    by_cases h0 : m.length = 0
    · exact law_Dvd1 na nb nq nr aa ab aq ar _ _ _ _ ca cb cq cr l m k j w ha hb hq hr rfl rfl rfl rfl hv' h0
    · cases hn : nr
      · subst hn
        rcases Int.lt_or_le (dval j) (dval m).natAbs with hc | hc
        · exact law_Dvd4 na nb nq false aa ab aq ar _ _ _ _ ca cb cq cr l m k j w ha hb hq hr rfl rfl rfl rfl hv' h0 rfl hc
        · exact law_Dvd3 na nb nq false aa ab aq ar _ _ _ _ ca cb cq cr l m k j w ha hb hq hr rfl rfl rfl rfl hv' h0 rfl hc
      · subst hn
        exact law_Dvd2 na nb nq true aa ab aq ar _ _ _ _ ca cb cq cr l m k j w ha hb hq hr rfl rfl rfl rfl hv' h0 rfl
  · exact law_Dvd0 na nb nq nr aa ab aq ar _ _ _ _ ca cb cq cr l m k j w ha hb hq hr rfl rfl rfl rfl hv
end Go.Proofs.YtpaaanbcadlhiaaDoor
