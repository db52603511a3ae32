import Derived.Test.YtpaaanbcadlhiaaDoorPLGcd
import Derived.Test.YtpaaanbcadlhiaaDoorPCalcA
import Derived.Test.YtpaaanbcadlhiaaDoorFacts
import Derived.Deep.DeepCutAuto
import Derived.Outline
namespace Go.Proofs.YtpaaanbcadlhiaaDoor
open Go.RowKit Go BigFrame
set_option maxRecDepth 100000
set_option linter.unusedSimpArgs false
set_option linter.unusedVariables false

theorem ref_Same_gen {x y : Value} {z z2 : Int} {w : World} (h : BigV w x z) (h2 : BigV w y z2) : Calls Tryd.prog 18 #[x, y] w fun e w' => e = .returned (.bool (decide (z = z2))) ∧ Ext w w' := ref_Same_val h h2
theorem lt_mono {z : Int} {n m : Nat} (h : z.natAbs < 1073741824 ^ n) (hn : n ≤ m) : z.natAbs < 1073741824 ^ m := Nat.lt_of_lt_of_le h (Nat.pow_le_pow_right (by omega) hn)
theorem BigV.form4 {w : World} {v : Value} {z : Int} (h : BigV w v z) : ∃ n a q c, v = .agg #[.bool n, .slice a q c] := by
  obtain ⟨n, a, q, c, rfl⟩ := h.form
  exact ⟨_, _, _, _, rfl⟩
/-- Nine pairs of equal integers. -/
def Pairs (w : World) (p : Nat) : Prop := ∀ i, i < 9 → ∃ (n1 : Bool) (a1 : Option Addr) (q1 c1 : Nat) (n2 : Bool) (a2 : Option Addr) (q2 c2 : Nat) (z : Int), w.cell? ⟨p, i * 4, none⟩ = some (.bool n1) ∧ w.cell? ⟨p, i * 4 + 1, none⟩ = some (.slice a1 q1 c1) ∧ w.cell? ⟨p, i * 4 + 2, none⟩ = some (.bool n2) ∧ w.cell? ⟨p, i * 4 + 3, none⟩ = some (.slice a2 q2 c2) ∧
  BigV w (.agg #[.bool n1, .slice a1 q1 c1]) z ∧ BigV w (.agg #[.bool n2, .slice a2 q2 c2]) z
theorem Pairs.ext {w w' : World} {p : Nat} (h : Pairs w p) (hx : Ext w w') : Pairs w' p := fun i hi => by
  obtain ⟨n1, a1, q1, c1, n2, a2, q2, c2, z, h1, h2, h3, h4, h5, h6⟩ := h i hi
  exact ⟨n1, a1, q1, c1, n2, a2, q2, c2, z, cell_ext hx h1, cell_ext hx h2, cell_ext hx h3, cell_ext hx h4, h5.ext hx, h6.ext hx⟩
theorem cmpI_add (a b d : Int) : cmpI (a + d) (b + d) = cmpI a b := by unfold cmpI; split <;> split <;> (try split) <;> (try split) <;> omega
theorem cmpI_sub (a b : Int) : cmpI (a - b) 0 = cmpI a b := by unfold cmpI; split <;> split <;> (try split) <;> (try split) <;> omega
theorem cmpI_neg (a b : Int) : cmpI b a = - cmpI a b := by unfold cmpI; split <;> split <;> (try split) <;> (try split) <;> omega
theorem cmpI_bd (a b : Int) : -1 ≤ cmpI a b ∧ cmpI a b ≤ 1 := by unfold cmpI; split <;> (try split) <;> omega
theorem cmpI_zero (a b : Int) : (cmpI a b == 0) = decide (a = b) := by
  unfold cmpI
  by_cases h : a = b
  · subst h; simp
  · rw [decide_eq_false h]
    split
    · rfl
    · split
      · rfl
      · omega
theorem cmpI_mul {a b d : Int} (hd : 0 < d) : cmpI (a * d) (b * d) = cmpI a b := by
  unfold cmpI
  have h1 : a * d < b * d ↔ a < b := ⟨fun h => Int.lt_of_mul_lt_mul_right h (by omega), fun h => Int.mul_lt_mul_of_pos_right h hd⟩
  have h2 : b * d < a * d ↔ b < a := ⟨fun h => Int.lt_of_mul_lt_mul_right h (by omega), fun h => Int.mul_lt_mul_of_pos_right h hd⟩
  simp only [h1, h2]
theorem cmpI_pos (d : Int) : decide (0 < cmpI d 0) = decide (0 < d) := by
  unfold cmpI
  split
  · rw [decide_eq_false (by omega), decide_eq_false (by omega)]
  · split
    · rw [decide_eq_true (by omega), decide_eq_true (by omega)]
    · rw [decide_eq_false (by omega), decide_eq_false (by omega)]

set_option maxHeartbeats 40000000 in
theorem law_Laws0 (na nb nd : Bool) (aa ab ad : Option Addr) (qa qb qd ca cb cd : Nat) (la_ lb_ ld_ : List Int) (w : World) (ha : Ints w aa ca la_) (hb : Ints w ab cb lb_) (hd : Ints w ad cd ld_) (la : la_.length = qa) (lb : lb_.length = qb) (ld : ld_.length = qd) (hv : (([⟨na, aa, ca, la_⟩, ⟨nb, ab, cb, lb_⟩, ⟨nd, ad, cd, ld_⟩] : List BigA)).any (fun x => !okA x) = true) :
    Calls Tryd.prog 11 #[.agg #[.bool na, .slice aa qa ca], .agg #[.bool nb, .slice ab qb cb], .agg #[.bool nd, .slice ad qd cd]] w fun e w' => e = .returned (.bool true) ∧ Ext w w' := by
  have HIa := Lib.hid ha
  have HIb := Lib.hid hb
  have HId := Lib.hid hd
  have HLa := Lib.hid la
  have HLb := Lib.hid lb
  have HLd := Lib.hid ld
  have HV := Lib.hid hv
  clear la lb ld ha hb hd hv
  have hx : Ext w ((((w).alloc (.cells #[.bool na, .slice aa qa ca] 24)).alloc (.cells #[.bool nb, .slice ab qb cb] 24)).alloc (.cells #[.bool nd, .slice ad qd cd] 24)) := (by repeat (first | with_reducible exact Ext.refl _ | with_reducible assumption | with_reducible refine Ext.drewN ?_ _ | with_reducible refine Ext.drew ?_ | with_reducible refine Ext.alloc' ?_ _ | with_reducible refine Ext.set ?_ (by dsimp only; omega) _))
  have Ka : Blk ((((w).alloc (.cells #[.bool na, .slice aa qa ca] 24)).alloc (.cells #[.bool nb, .slice ab qb cb] 24)).alloc (.cells #[.bool nd, .slice ad qd cd] 24)) (w.heap.size) #[.bool na, .slice aa qa ca] 24 := by have h := ((Blk.new0 (w) #[.bool na, .slice aa qa ca] 24).alloc (.cells #[.bool nb, .slice ab qb cb] 24)).alloc (.cells #[.bool nd, .slice ad qd cd] 24); simpa [Nat.add_assoc] using h
  replace Ka := Lib.hid Ka
  have Kb : Blk ((((w).alloc (.cells #[.bool na, .slice aa qa ca] 24)).alloc (.cells #[.bool nb, .slice ab qb cb] 24)).alloc (.cells #[.bool nd, .slice ad qd cd] 24)) (w.heap.size + 1) #[.bool nb, .slice ab qb cb] 24 := by have h := (Blk.new0 ((w).alloc (.cells #[.bool na, .slice aa qa ca] 24)) #[.bool nb, .slice ab qb cb] 24).alloc (.cells #[.bool nd, .slice ad qd cd] 24); simpa [Nat.add_assoc] using h
  replace Kb := Lib.hid Kb
  have Kd : Blk ((((w).alloc (.cells #[.bool na, .slice aa qa ca] 24)).alloc (.cells #[.bool nb, .slice ab qb cb] 24)).alloc (.cells #[.bool nd, .slice ad qd cd] 24)) (w.heap.size + 2) #[.bool nd, .slice ad qd cd] 24 := by have h := Blk.new0 (((w).alloc (.cells #[.bool na, .slice aa qa ca] 24)).alloc (.cells #[.bool nb, .slice ab qb cb] 24)) #[.bool nd, .slice ad qd cd] 24; simpa [Nat.add_assoc] using h
  replace Kd := Lib.hid Kd
  go_enter Tryd.func11, Tryd.ntmps11
  go_upto_region 1 with fail
  try simp only [Nat.add_assoc, Nat.reduceAdd, Nat.add_zero]
  generalize (((w).alloc (.cells #[.bool na, .slice aa qa ca] 24)).alloc (.cells #[.bool nb, .slice ab qb cb] 24)).alloc (.cells #[.bool nd, .slice ad qd cd] 24) = x1 at *
  go_wp2_with fail
  with_reducible refine (law09Sane _).mono ?_
  rintro e x2 ⟨rfl, hy⟩
  replace hx := hx.trans hy
  replace Ka := Lib.hid (Ka.out.ext hy)
  replace Kb := Lib.hid (Kb.out.ext hy)
  replace Kd := Lib.hid (Kd.out.ext hy)
  clear hy
  have ca0 := Ka.out.cell (i := 0) (v := .bool na) rfl
  have ca1 := Ka.out.cell (i := 1) (v := .slice aa qa ca) rfl
  have cb0 := Kb.out.cell (i := 0) (v := .bool nb) rfl
  have cb1 := Kb.out.cell (i := 1) (v := .slice ab qb cb) rfl
  have cd0 := Kd.out.cell (i := 0) (v := .bool nd) rfl
  have cd1 := Kd.out.cell (i := 1) (v := .slice ad qd cd) rfl
  have hl := Ext.alloc x2 (.cells #[.bool na, .slice aa qa ca, .bool nb, .slice ab qb cb, .bool nd, .slice ad qd cd] 24)
  have hrow : BigRow (x2.alloc (.cells #[.bool na, .slice aa qa ca, .bool nb, .slice ab qb cb, .bool nd, .slice ad qd cd] 24)) x2.heap.size [⟨na, aa, ca, la_⟩, ⟨nb, ab, cb, lb_⟩, ⟨nd, ad, cd, ld_⟩] := by
    have hB := Blk.new0 x2 #[.bool na, .slice aa qa ca, .bool nb, .slice ab qb cb, .bool nd, .slice ad qd cd] 24
    have hxl := hx.trans hl
    rw [← HLa.out, ← HLb.out, ← HLd.out] at hB hxl ⊢
    exact bigRow3 hB (HIa.out.ext hxl) (HIb.out.ext hxl) (HId.out.ext hxl)
  have HROW := Lib.hid hrow
  clear hrow
  have HVAL := Lib.hid (law_valid_no _ _ _ HROW.out (by simp) HV.out)
  simp only [List.length_cons, List.length_nil, Nat.zero_add, Nat.reduceAdd] at HVAL
  go_wp2_with fail
  with_reducible refine (HVAL.out).mono ?_
  rintro e x3 ⟨rfl, hy⟩
  replace hx := hx.trans (hl.trans hy)
  replace Ka := Lib.hid (Ka.out.ext (hl.trans hy))
  replace Kb := Lib.hid (Kb.out.ext (hl.trans hy))
  replace Kd := Lib.hid (Kd.out.ext (hl.trans hy))
  clear hl hy HROW HVAL
  clear ca0 ca1 cb0 cb1 cd0 cd1
  go_wp2_with fail
  go_ret
  exact ⟨rfl, hx⟩
set_option maxHeartbeats 40000000 in
theorem law_Laws1 (na nb nd : Bool) (aa ab ad : Option Addr) (qa qb qd ca cb cd : Nat) (la_ lb_ ld_ : List Int) (w : World) (ha : Ints w aa ca la_) (hb : Ints w ab cb lb_) (hd : Ints w ad cd ld_) (la : la_.length = qa) (lb : lb_.length = qb) (ld : ld_.length = qd) (hv : ∀ x ∈ ([⟨na, aa, ca, la_⟩, ⟨nb, ab, cb, lb_⟩, ⟨nd, ad, cd, ld_⟩] : List BigA), okA x = true) :
    Calls Tryd.prog 11 #[.agg #[.bool na, .slice aa qa ca], .agg #[.bool nb, .slice ab qb cb], .agg #[.bool nd, .slice ad qd cd]] w fun e w' => e = .returned (.bool true) ∧ Ext w w' := by
  have HIa := Lib.hid ha
  have HIb := Lib.hid hb
  have HId := Lib.hid hd
  have HLa := Lib.hid la
  have HLb := Lib.hid lb
  have HLd := Lib.hid ld
  have HV := Lib.hid hv
  clear la lb ld ha hb hd hv
  have hx : Ext w ((((w).alloc (.cells #[.bool na, .slice aa qa ca] 24)).alloc (.cells #[.bool nb, .slice ab qb cb] 24)).alloc (.cells #[.bool nd, .slice ad qd cd] 24)) := (by repeat (first | with_reducible exact Ext.refl _ | with_reducible assumption | with_reducible refine Ext.drewN ?_ _ | with_reducible refine Ext.drew ?_ | with_reducible refine Ext.alloc' ?_ _ | with_reducible refine Ext.set ?_ (by dsimp only; omega) _))
  have Ka : Blk ((((w).alloc (.cells #[.bool na, .slice aa qa ca] 24)).alloc (.cells #[.bool nb, .slice ab qb cb] 24)).alloc (.cells #[.bool nd, .slice ad qd cd] 24)) (w.heap.size) #[.bool na, .slice aa qa ca] 24 := by have h := ((Blk.new0 (w) #[.bool na, .slice aa qa ca] 24).alloc (.cells #[.bool nb, .slice ab qb cb] 24)).alloc (.cells #[.bool nd, .slice ad qd cd] 24); simpa [Nat.add_assoc] using h
  replace Ka := Lib.hid Ka
  have Kb : Blk ((((w).alloc (.cells #[.bool na, .slice aa qa ca] 24)).alloc (.cells #[.bool nb, .slice ab qb cb] 24)).alloc (.cells #[.bool nd, .slice ad qd cd] 24)) (w.heap.size + 1) #[.bool nb, .slice ab qb cb] 24 := by have h := (Blk.new0 ((w).alloc (.cells #[.bool na, .slice aa qa ca] 24)) #[.bool nb, .slice ab qb cb] 24).alloc (.cells #[.bool nd, .slice ad qd cd] 24); simpa [Nat.add_assoc] using h
  replace Kb := Lib.hid Kb
  have Kd : Blk ((((w).alloc (.cells #[.bool na, .slice aa qa ca] 24)).alloc (.cells #[.bool nb, .slice ab qb cb] 24)).alloc (.cells #[.bool nd, .slice ad qd cd] 24)) (w.heap.size + 2) #[.bool nd, .slice ad qd cd] 24 := by have h := Blk.new0 (((w).alloc (.cells #[.bool na, .slice aa qa ca] 24)).alloc (.cells #[.bool nb, .slice ab qb cb] 24)) #[.bool nd, .slice ad qd cd] 24; simpa [Nat.add_assoc] using h
  replace Kd := Lib.hid Kd
  go_enter Tryd.func11, Tryd.ntmps11
  go_upto_region 1 with fail
  try simp only [Nat.add_assoc, Nat.reduceAdd, Nat.add_zero]
  generalize (((w).alloc (.cells #[.bool na, .slice aa qa ca] 24)).alloc (.cells #[.bool nb, .slice ab qb cb] 24)).alloc (.cells #[.bool nd, .slice ad qd cd] 24) = x4 at *
  go_wp2_with fail
  with_reducible refine (law09Sane _).mono ?_
  rintro e x5 ⟨rfl, hy⟩
  replace hx := hx.trans hy
  replace Ka := Lib.hid (Ka.out.ext hy)
  replace Kb := Lib.hid (Kb.out.ext hy)
  replace Kd := Lib.hid (Kd.out.ext hy)
  clear hy
  have ca0 := Ka.out.cell (i := 0) (v := .bool na) rfl
  have ca1 := Ka.out.cell (i := 1) (v := .slice aa qa ca) rfl
  have cb0 := Kb.out.cell (i := 0) (v := .bool nb) rfl
  have cb1 := Kb.out.cell (i := 1) (v := .slice ab qb cb) rfl
  have cd0 := Kd.out.cell (i := 0) (v := .bool nd) rfl
  have cd1 := Kd.out.cell (i := 1) (v := .slice ad qd cd) rfl
  have hl := Ext.alloc x5 (.cells #[.bool na, .slice aa qa ca, .bool nb, .slice ab qb cb, .bool nd, .slice ad qd cd] 24)
  have hrow : BigRow (x5.alloc (.cells #[.bool na, .slice aa qa ca, .bool nb, .slice ab qb cb, .bool nd, .slice ad qd cd] 24)) x5.heap.size [⟨na, aa, ca, la_⟩, ⟨nb, ab, cb, lb_⟩, ⟨nd, ad, cd, ld_⟩] := by
    have hB := Blk.new0 x5 #[.bool na, .slice aa qa ca, .bool nb, .slice ab qb cb, .bool nd, .slice ad qd cd] 24
    have hxl := hx.trans hl
    rw [← HLa.out, ← HLb.out, ← HLd.out] at hB hxl ⊢
    exact bigRow3 hB (HIa.out.ext hxl) (HIb.out.ext hxl) (HId.out.ext hxl)
  have HROW := Lib.hid hrow
  clear hrow
  have HVAL := Lib.hid (law_valid_yes _ _ _ HROW.out (by simp) HV.out)
  simp only [List.length_cons, List.length_nil, Nat.zero_add, Nat.reduceAdd] at HVAL
  go_wp2_with fail
  with_reducible refine (HVAL.out).mono ?_
  rintro e x6 ⟨rfl, hy⟩
  replace hx := hx.trans (hl.trans hy)
  replace Ka := Lib.hid (Ka.out.ext (hl.trans hy))
  replace Kb := Lib.hid (Kb.out.ext (hl.trans hy))
  replace Kd := Lib.hid (Kd.out.ext (hl.trans hy))
  clear hl hy HROW HVAL
  clear ca0 ca1 cb0 cb1 cd0 cd1
  go_upto_region 5 with fail
  obtain ⟨hBa, hDa⟩ := okA_z (HV.out _ (show (⟨na, aa, ca, la_⟩ : BigA) ∈ ([⟨na, aa, ca, la_⟩, ⟨nb, ab, cb, lb_⟩, ⟨nd, ad, cd, ld_⟩] : List BigA) from by simp))
  obtain ⟨za, hza⟩ : ∃ z, sgn na (dval la_) = z := ⟨_, rfl⟩
  have Va : Hid (BigV w (.agg #[.bool na, .slice aa qa ca]) za) := Lib.hid ⟨na, la_, ⟨aa, ca, by rw [HLa.out], HIa.out⟩, by rw [← hza]; exact hBa⟩
  replace Va := Lib.hid (Va.out.ext hx)
  have Da : Hid (za.natAbs < 1073741824 ^ 12) := Lib.hid (abs_lt (by rw [← hza]; exact hDa))
  have La : Hid (Len za) := Lib.hid (len_lt Da.out (by omega))
  obtain ⟨hBb, hDb⟩ := okA_z (HV.out _ (show (⟨nb, ab, cb, lb_⟩ : BigA) ∈ ([⟨na, aa, ca, la_⟩, ⟨nb, ab, cb, lb_⟩, ⟨nd, ad, cd, ld_⟩] : List BigA) from by simp))
  obtain ⟨zb, hzb⟩ : ∃ z, sgn nb (dval lb_) = z := ⟨_, rfl⟩
  have Vb : Hid (BigV w (.agg #[.bool nb, .slice ab qb cb]) zb) := Lib.hid ⟨nb, lb_, ⟨ab, cb, by rw [HLb.out], HIb.out⟩, by rw [← hzb]; exact hBb⟩
  replace Vb := Lib.hid (Vb.out.ext hx)
  have Db : Hid (zb.natAbs < 1073741824 ^ 12) := Lib.hid (abs_lt (by rw [← hzb]; exact hDb))
  have Lb : Hid (Len zb) := Lib.hid (len_lt Db.out (by omega))
  obtain ⟨hBd, hDd⟩ := okA_z (HV.out _ (show (⟨nd, ad, cd, ld_⟩ : BigA) ∈ ([⟨na, aa, ca, la_⟩, ⟨nb, ab, cb, lb_⟩, ⟨nd, ad, cd, ld_⟩] : List BigA) from by simp))
  obtain ⟨zd, hzd⟩ : ∃ z, sgn nd (dval ld_) = z := ⟨_, rfl⟩
  have Vd : Hid (BigV w (.agg #[.bool nd, .slice ad qd cd]) zd) := Lib.hid ⟨nd, ld_, ⟨ad, cd, by rw [HLd.out], HId.out⟩, by rw [← hzd]; exact hBd⟩
  replace Vd := Lib.hid (Vd.out.ext hx)
  have Dd : Hid (zd.natAbs < 1073741824 ^ 12) := Lib.hid (abs_lt (by rw [← hzd]; exact hDd))
  have Ld : Hid (Len zd) := Lib.hid (len_lt Dd.out (by omega))
  clear hBa hDa hza hBb hDb hzb hBd hDd hzd
  clear HIa HIb HId HLa HLb HLd HV
  go_upto_region 6 with fail
  have hl := Ext.alloc x6 (.cells #[.bool false] 49)
  replace hx := hx.trans hl
  replace Ka := Lib.hid (Ka.out.ext hl)
  replace Kb := Lib.hid (Kb.out.ext hl)
  replace Kd := Lib.hid (Kd.out.ext hl)
  replace Va := Lib.hid (Va.out.ext hl)
  replace Vb := Lib.hid (Vb.out.ext hl)
  replace Vd := Lib.hid (Vd.out.ext hl)
  have KC := Lib.hid (Blk.new0 x6 #[.bool false] 49)
  clear hl
  generalize x6.alloc (.cells #[.bool false] 49) = x7 at *
  generalize x6.heap.size = pc at *
  have D0 : Hid ((0 : Int).natAbs < 1073741824 ^ 12) := Lib.hid (by simp)
  have L0 : Hid (Len 0) := Lib.hid (len_small (by decide))
  have DS : Hid ((za + zb).natAbs < 1073741824 ^ 13) := Lib.hid (add_lt (lt_mono Da.out (by omega)) (lt_mono (m := 12) Db.out (by omega)))
  have LS := Lib.hid (len_lt DS.out (by omega))
  have DP : Hid ((za * zb).natAbs < 1073741824 ^ 24) := Lib.hid (mul_lt Da.out Db.out)
  have LP := Lib.hid (len_lt DP.out (by omega))
  go_cut [8, 9] (fun s8 s9 wx => ∃ (pS pP : Nat) (nS : Bool) (aS : Option Addr) (qS cS : Nat) (nP : Bool) (aP : Option Addr) (qP cP : Nat), s8 = .pointer (some ⟨pS, 0, none⟩) ∧ s9 = .pointer (some ⟨pP, 0, none⟩) ∧ Blk wx pS #[.bool nS, .slice aS qS cS] 24 ∧ Blk wx pP #[.bool nP, .slice aP qP cP] 24 ∧ BigV wx (.agg #[.bool nS, .slice aS qS cS]) (za + zb) ∧ BigV wx (.agg #[.bool nP, .slice aP qP cP]) (za * zb) ∧ Ext x7 wx)
  case first =>
    have dc0 : x7.cell? ⟨w.heap.size, 0, none⟩ = some (.bool na) := Ka.out.cell (i := 0) rfl
    have dc1 : x7.cell? ⟨w.heap.size, 1, none⟩ = some (.slice aa qa ca) := Ka.out.cell (i := 1) rfl
    have dc2 : x7.cell? ⟨w.heap.size + 1, 0, none⟩ = some (.bool nb) := Kb.out.cell (i := 0) rfl
    have dc3 : x7.cell? ⟨w.heap.size + 1, 1, none⟩ = some (.slice ab qb cb) := Kb.out.cell (i := 1) rfl
    have hE : Ext x7 x7.drew := (Ext.refl _).drew
    refine wp_region_held_drew (S := (fun w' => w'.cell? ⟨w.heap.size, 0, none⟩ = some (.bool na) ∧ w'.cell? ⟨w.heap.size, 1, none⟩ = some (.slice aa qa ca) ∧ w'.cell? ⟨w.heap.size + 1, 0, none⟩ = some (.bool nb) ∧ w'.cell? ⟨w.heap.size + 1, 1, none⟩ = some (.slice ab qb cb))) (by kernel_rfl) ?_ (fun hHeld => ?_)
    · exact ⟨cell_ext hE dc0, cell_ext hE dc1, cell_ext hE dc2, cell_ext hE dc3⟩
    generalize World.drew x7 = y0 at *
    refine wpAnyH_take (i := 0) (oi := _) (v := ?_) rfl (by kernel_rfl) (by kernel_rfl) (by kernel_rfl) (fun _ _ _ h => h) (Or.inl ⟨by rfl, ?_⟩) (by assumption) ?_
    rotate_left
    · (intro w hSw; (try dsimp only at hSw); (try go_simp); (try with_reducible rfl))
    (try simp only [Act.put, List.getElem_toArray, List.getElem_cons_succ, List.getElem_cons_zero, List.setIfInBounds_toArray, List.set_cons_zero, List.set_cons_succ])
    refine wpAnyH_take (i := 1) (oi := _) (v := ?_) rfl (by kernel_rfl) (by kernel_rfl) (by kernel_rfl) (fun _ _ _ h => h) (Or.inl ⟨by rfl, ?_⟩) (by assumption) ?_
    rotate_left
    · (intro w hSw; (try dsimp only at hSw); (try go_simp); (try with_reducible rfl))
    (try simp only [Act.put, List.getElem_toArray, List.getElem_cons_succ, List.getElem_cons_zero, List.setIfInBounds_toArray, List.set_cons_zero, List.set_cons_succ])
    refine wpAnyH_take (i := 3) (oi := _) (v := ?_) rfl (by kernel_rfl) (by kernel_rfl) (by kernel_rfl) (fun _ _ _ h => h) (Or.inl ⟨by rfl, ?_⟩) (by assumption) ?_
    rotate_left
    · (intro w hSw; (try dsimp only at hSw); (try go_simp); (try with_reducible rfl))
    (try simp only [Act.put, List.getElem_toArray, List.getElem_cons_succ, List.getElem_cons_zero, List.setIfInBounds_toArray, List.set_cons_zero, List.set_cons_succ])
    refine wpAnyH_take (i := 4) (oi := _) (v := ?_) rfl (by kernel_rfl) (by kernel_rfl) (by kernel_rfl) (fun _ _ _ h => h) (Or.inl ⟨by rfl, ?_⟩) (by assumption) ?_
    rotate_left
    · (intro w hSw; (try dsimp only at hSw); (try go_simp); (try with_reducible rfl))
    (try simp only [Act.put, List.getElem_toArray, List.getElem_cons_succ, List.getElem_cons_zero, List.setIfInBounds_toArray, List.set_cons_zero, List.set_cons_succ])
    refine wpAnyH_ready (rs := [2, 6, 7]) (by kernel_rfl) (by simp) ?_
    refine AllReadyH.cons (o := _) rfl (fun K hK => ?_) ?_
    · go_simp
      (with_reducible refine (calc_add pc _ (KC.out.ext hE) (Va.out.ext hE) (Vb.out.ext hE) La.out Lb.out LS.out).mono ?_); rintro e y1 ⟨vS, rfl, hvS, hy⟩; replace hE := hE.trans hy; replace hvS := hvS.val; obtain ⟨nS, aS, qS, cS, rfl⟩ := hvS.form
      refine hK.out _ _ ?_ (fun hHeld2 => ?_)
      · exact ⟨cell_ext hE dc0, cell_ext hE dc1, cell_ext hE dc2, cell_ext hE dc3⟩
      clear hK K hHeld
      have hHeld := hHeld2
      clear hHeld2
      (try simp only [Act.put, List.getElem_toArray, List.getElem_cons_succ, List.getElem_cons_zero, List.setIfInBounds_toArray, List.set_cons_zero, List.set_cons_succ])
      refine wpAnyH_ready (rs := [5, 6, 7]) (by kernel_rfl) (by simp) ?_
      refine AllReadyH.cons (o := _) rfl (fun K hK => ?_) ?_
      · go_simp
        (with_reducible refine (calc_mul pc _ (KC.out.ext hE) (Va.out.ext hE) (Vb.out.ext hE) La.out Lb.out LP.out).mono ?_); rintro e y2 ⟨vP, rfl, hvP, hy⟩; replace hE := hE.trans hy; replace hvS := hvS.ext hy; replace hvP := hvP.val; obtain ⟨nP, aP, qP, cP, rfl⟩ := hvP.form
        refine hK.out _ _ ?_ (fun hHeld2 => ?_)
        · exact ⟨cell_ext hE dc0, cell_ext hE dc1, cell_ext hE dc2, cell_ext hE dc3⟩
        clear hK K hHeld
        have hHeld := hHeld2
        clear hHeld2
        (try simp only [Act.put, List.getElem_toArray, List.getElem_cons_succ, List.getElem_cons_zero, List.setIfInBounds_toArray, List.set_cons_zero, List.set_cons_succ])
        refine wpAnyH_ready (rs := [6, 7]) (by kernel_rfl) (by simp) ?_
        refine AllReadyH.cons (o := _) rfl (fun K hK => ?_) ?_
        · go_simp
          have hy : Ext (y2) ((y2).alloc (.cells #[.bool false, .slice none 0 0] 24)) := Ext.alloc _ _; have hqS : x7.heap.size ≤ y2.heap.size := hE.size; replace hE := hE.trans hy; replace hvS := hvS.ext hy; replace hvP := hvP.ext hy; have hBS : Blk ((y2).alloc (.cells #[.bool false, .slice none 0 0] 24)) y2.heap.size #[.bool false, .slice none 0 0] 24 := Blk.new0 _ _ _; generalize (y2).alloc (.cells #[.bool false, .slice none 0 0] 24) = y3 at *; generalize y2.heap.size = pS at *
          refine hK.out _ _ ?_ (fun hHeld2 => ?_)
          · exact ⟨cell_ext hE dc0, cell_ext hE dc1, cell_ext hE dc2, cell_ext hE dc3⟩
          clear hK K hHeld
          have hHeld := hHeld2
          clear hHeld2
          (try simp only [Act.put, List.getElem_toArray, List.getElem_cons_succ, List.getElem_cons_zero, List.setIfInBounds_toArray, List.set_cons_zero, List.set_cons_succ])
          refine wpAnyH_ready (rs := [7]) (by kernel_rfl) (by simp) ?_
          refine AllReadyH.cons (o := _) rfl (fun K hK => ?_) ?_
          · go_simp
            have hy : Ext (y3) ((y3).alloc (.cells #[.bool false, .slice none 0 0] 24)) := Ext.alloc _ _; have hqP : x7.heap.size ≤ y3.heap.size := hE.size; replace hE := hE.trans hy; have hdSP : pS < y3.heap.size := hBS.lt; replace hvS := hvS.ext hy; replace hvP := hvP.ext hy; replace hBS := hBS.ext hy; have hBP : Blk ((y3).alloc (.cells #[.bool false, .slice none 0 0] 24)) y3.heap.size #[.bool false, .slice none 0 0] 24 := Blk.new0 _ _ _; generalize (y3).alloc (.cells #[.bool false, .slice none 0 0] 24) = y4 at *; generalize y3.heap.size = pP at *
            refine hK.out _ _ ?_ (fun hHeld2 => ?_)
            · exact ⟨cell_ext hE dc0, cell_ext hE dc1, cell_ext hE dc2, cell_ext hE dc3⟩
            clear hK K hHeld
            have hHeld := hHeld2
            clear hHeld2
            (try simp only [Act.put, List.getElem_toArray, List.getElem_cons_succ, List.getElem_cons_zero, List.setIfInBounds_toArray, List.set_cons_zero, List.set_cons_succ])
            refine wpAnyH_ready (rs := [8]) (by kernel_rfl) (by simp) ?_
            refine AllReadyH.cons (o := _) rfl (fun K hK => ?_) ?_
            · go_simp
              have g0 := hBS.cell (i := 0) (v := .bool false) rfl; have g1 := (hBS.set 0 (.bool nS)).cell (i := 1) (v := .slice none 0 0) rfl; have q0 := hBS.free 0; have q1 := (hBS.set 0 (.bool nS)).free 1; go_simp; replace hE := (hE.set (p := ⟨pS, 0, none⟩) hqS (.bool nS)).set (p := ⟨pS, 1, none⟩) hqS (.slice aS qS cS); replace hvS := (hvS.box hBS 0 (.bool nS)).box (hBS.set 0 (.bool nS)) 1 (.slice aS qS cS); replace hvP := (hvP.box hBS 0 (.bool nS)).box (hBS.set 0 (.bool nS)) 1 (.slice aS qS cS); replace hBP := (hBP.other (p := ⟨pS, 0, none⟩) (by dsimp only; omega) (.bool nS)).other (p := ⟨pS, 1, none⟩) (by dsimp only; omega) (.slice aS qS cS); replace hBS := (hBS.set 0 (.bool nS)).set 1 (.slice aS qS cS); clear g0 g1 q0 q1; generalize ((y4).setCell ⟨pS, 0, none⟩ (.bool nS)).setCell ⟨pS, 1, none⟩ (.slice aS qS cS) = y5 at *
              refine hK.out _ _ ?_ (fun hHeld2 => ?_)
              · exact ⟨cell_ext hE dc0, cell_ext hE dc1, cell_ext hE dc2, cell_ext hE dc3⟩
              clear hK K hHeld
              have hHeld := hHeld2
              clear hHeld2
              (try simp only [Act.put, List.getElem_toArray, List.getElem_cons_succ, List.getElem_cons_zero, List.setIfInBounds_toArray, List.set_cons_zero, List.set_cons_succ])
              refine wpAnyH_ready (rs := [9]) (by kernel_rfl) (by simp) ?_
              refine AllReadyH.cons (o := _) rfl (fun K hK => ?_) ?_
              · go_simp
                have g0 := hBP.cell (i := 0) (v := .bool false) rfl; have g1 := (hBP.set 0 (.bool nP)).cell (i := 1) (v := .slice none 0 0) rfl; have q0 := hBP.free 0; have q1 := (hBP.set 0 (.bool nP)).free 1; go_simp; replace hE := (hE.set (p := ⟨pP, 0, none⟩) hqP (.bool nP)).set (p := ⟨pP, 1, none⟩) hqP (.slice aP qP cP); replace hvS := (hvS.box hBP 0 (.bool nP)).box (hBP.set 0 (.bool nP)) 1 (.slice aP qP cP); replace hvP := (hvP.box hBP 0 (.bool nP)).box (hBP.set 0 (.bool nP)) 1 (.slice aP qP cP); replace hBS := (hBS.other (p := ⟨pP, 0, none⟩) (by dsimp only; omega) (.bool nP)).other (p := ⟨pP, 1, none⟩) (by dsimp only; omega) (.slice aP qP cP); replace hBP := (hBP.set 0 (.bool nP)).set 1 (.slice aP qP cP); clear g0 g1 q0 q1; generalize ((y5).setCell ⟨pP, 0, none⟩ (.bool nP)).setCell ⟨pP, 1, none⟩ (.slice aP qP cP) = y6 at *
                refine hK.out _ _ ?_ (fun hHeld2 => ?_)
                · exact ⟨cell_ext hE dc0, cell_ext hE dc1, cell_ext hE dc2, cell_ext hE dc3⟩
                clear hK K hHeld
                have hHeld := hHeld2
                clear hHeld2
                (try simp only [Act.put, List.getElem_toArray, List.getElem_cons_succ, List.getElem_cons_zero, List.setIfInBounds_toArray, List.set_cons_zero, List.set_cons_succ])
                refine wpAnyH_done (by kernel_rfl) ?_ _
                (go_wp2_with fail; go_meet; exact ⟨pS, pP, nS, aS, qS, cS, nP, aP, qP, cP, rfl, rfl, hBS, hBP, hvS, hvP, hE⟩)
              exact AllReadyH.nil
            exact AllReadyH.nil
          exact AllReadyH.nil
        refine AllReadyH.cons (o := _) rfl (fun K hK => ?_) ?_
        · go_simp
          have hy : Ext (y2) ((y2).alloc (.cells #[.bool false, .slice none 0 0] 24)) := Ext.alloc _ _; have hqP : x7.heap.size ≤ y2.heap.size := hE.size; replace hE := hE.trans hy; replace hvS := hvS.ext hy; replace hvP := hvP.ext hy; have hBP : Blk ((y2).alloc (.cells #[.bool false, .slice none 0 0] 24)) y2.heap.size #[.bool false, .slice none 0 0] 24 := Blk.new0 _ _ _; generalize (y2).alloc (.cells #[.bool false, .slice none 0 0] 24) = y7 at *; generalize y2.heap.size = pP at *
          refine hK.out _ _ ?_ (fun hHeld2 => ?_)
          · exact ⟨cell_ext hE dc0, cell_ext hE dc1, cell_ext hE dc2, cell_ext hE dc3⟩
          clear hK K hHeld
          have hHeld := hHeld2
          clear hHeld2
          (try simp only [Act.put, List.getElem_toArray, List.getElem_cons_succ, List.getElem_cons_zero, List.setIfInBounds_toArray, List.set_cons_zero, List.set_cons_succ])
          refine wpAnyH_ready (rs := [6]) (by kernel_rfl) (by simp) ?_
          refine AllReadyH.cons (o := _) rfl (fun K hK => ?_) ?_
          · go_simp
            have hy : Ext (y7) ((y7).alloc (.cells #[.bool false, .slice none 0 0] 24)) := Ext.alloc _ _; have hqS : x7.heap.size ≤ y7.heap.size := hE.size; replace hE := hE.trans hy; have hdPS : pP < y7.heap.size := hBP.lt; replace hvS := hvS.ext hy; replace hvP := hvP.ext hy; replace hBP := hBP.ext hy; have hBS : Blk ((y7).alloc (.cells #[.bool false, .slice none 0 0] 24)) y7.heap.size #[.bool false, .slice none 0 0] 24 := Blk.new0 _ _ _; generalize (y7).alloc (.cells #[.bool false, .slice none 0 0] 24) = y8 at *; generalize y7.heap.size = pS at *
            refine hK.out _ _ ?_ (fun hHeld2 => ?_)
            · exact ⟨cell_ext hE dc0, cell_ext hE dc1, cell_ext hE dc2, cell_ext hE dc3⟩
            clear hK K hHeld
            have hHeld := hHeld2
            clear hHeld2
            (try simp only [Act.put, List.getElem_toArray, List.getElem_cons_succ, List.getElem_cons_zero, List.setIfInBounds_toArray, List.set_cons_zero, List.set_cons_succ])
            refine wpAnyH_ready (rs := [8]) (by kernel_rfl) (by simp) ?_
            refine AllReadyH.cons (o := _) rfl (fun K hK => ?_) ?_
            · go_simp
              have g0 := hBS.cell (i := 0) (v := .bool false) rfl; have g1 := (hBS.set 0 (.bool nS)).cell (i := 1) (v := .slice none 0 0) rfl; have q0 := hBS.free 0; have q1 := (hBS.set 0 (.bool nS)).free 1; go_simp; replace hE := (hE.set (p := ⟨pS, 0, none⟩) hqS (.bool nS)).set (p := ⟨pS, 1, none⟩) hqS (.slice aS qS cS); replace hvS := (hvS.box hBS 0 (.bool nS)).box (hBS.set 0 (.bool nS)) 1 (.slice aS qS cS); replace hvP := (hvP.box hBS 0 (.bool nS)).box (hBS.set 0 (.bool nS)) 1 (.slice aS qS cS); replace hBP := (hBP.other (p := ⟨pS, 0, none⟩) (by dsimp only; omega) (.bool nS)).other (p := ⟨pS, 1, none⟩) (by dsimp only; omega) (.slice aS qS cS); replace hBS := (hBS.set 0 (.bool nS)).set 1 (.slice aS qS cS); clear g0 g1 q0 q1; generalize ((y8).setCell ⟨pS, 0, none⟩ (.bool nS)).setCell ⟨pS, 1, none⟩ (.slice aS qS cS) = y9 at *
              refine hK.out _ _ ?_ (fun hHeld2 => ?_)
              · exact ⟨cell_ext hE dc0, cell_ext hE dc1, cell_ext hE dc2, cell_ext hE dc3⟩
              clear hK K hHeld
              have hHeld := hHeld2
              clear hHeld2
              (try simp only [Act.put, List.getElem_toArray, List.getElem_cons_succ, List.getElem_cons_zero, List.setIfInBounds_toArray, List.set_cons_zero, List.set_cons_succ])
              refine wpAnyH_ready (rs := [9]) (by kernel_rfl) (by simp) ?_
              refine AllReadyH.cons (o := _) rfl (fun K hK => ?_) ?_
              · go_simp
                have g0 := hBP.cell (i := 0) (v := .bool false) rfl; have g1 := (hBP.set 0 (.bool nP)).cell (i := 1) (v := .slice none 0 0) rfl; have q0 := hBP.free 0; have q1 := (hBP.set 0 (.bool nP)).free 1; go_simp; replace hE := (hE.set (p := ⟨pP, 0, none⟩) hqP (.bool nP)).set (p := ⟨pP, 1, none⟩) hqP (.slice aP qP cP); replace hvS := (hvS.box hBP 0 (.bool nP)).box (hBP.set 0 (.bool nP)) 1 (.slice aP qP cP); replace hvP := (hvP.box hBP 0 (.bool nP)).box (hBP.set 0 (.bool nP)) 1 (.slice aP qP cP); replace hBS := (hBS.other (p := ⟨pP, 0, none⟩) (by dsimp only; omega) (.bool nP)).other (p := ⟨pP, 1, none⟩) (by dsimp only; omega) (.slice aP qP cP); replace hBP := (hBP.set 0 (.bool nP)).set 1 (.slice aP qP cP); clear g0 g1 q0 q1; generalize ((y9).setCell ⟨pP, 0, none⟩ (.bool nP)).setCell ⟨pP, 1, none⟩ (.slice aP qP cP) = y10 at *
                refine hK.out _ _ ?_ (fun hHeld2 => ?_)
                · exact ⟨cell_ext hE dc0, cell_ext hE dc1, cell_ext hE dc2, cell_ext hE dc3⟩
                clear hK K hHeld
                have hHeld := hHeld2
                clear hHeld2
                (try simp only [Act.put, List.getElem_toArray, List.getElem_cons_succ, List.getElem_cons_zero, List.setIfInBounds_toArray, List.set_cons_zero, List.set_cons_succ])
                refine wpAnyH_done (by kernel_rfl) ?_ _
                (go_wp2_with fail; go_meet; exact ⟨pS, pP, nS, aS, qS, cS, nP, aP, qP, cP, rfl, rfl, hBS, hBP, hvS, hvP, hE⟩)
              exact AllReadyH.nil
            exact AllReadyH.nil
          exact AllReadyH.nil
        exact AllReadyH.nil
      refine AllReadyH.cons (o := _) rfl (fun K hK => ?_) ?_
      · go_simp
        have hy : Ext (y1) ((y1).alloc (.cells #[.bool false, .slice none 0 0] 24)) := Ext.alloc _ _; have hqS : x7.heap.size ≤ y1.heap.size := hE.size; replace hE := hE.trans hy; replace hvS := hvS.ext hy; have hBS : Blk ((y1).alloc (.cells #[.bool false, .slice none 0 0] 24)) y1.heap.size #[.bool false, .slice none 0 0] 24 := Blk.new0 _ _ _; generalize (y1).alloc (.cells #[.bool false, .slice none 0 0] 24) = y11 at *; generalize y1.heap.size = pS at *
        refine hK.out _ _ ?_ (fun hHeld2 => ?_)
        · exact ⟨cell_ext hE dc0, cell_ext hE dc1, cell_ext hE dc2, cell_ext hE dc3⟩
        clear hK K hHeld
        have hHeld := hHeld2
        clear hHeld2
        (try simp only [Act.put, List.getElem_toArray, List.getElem_cons_succ, List.getElem_cons_zero, List.setIfInBounds_toArray, List.set_cons_zero, List.set_cons_succ])
        refine wpAnyH_ready (rs := [5, 7]) (by kernel_rfl) (by simp) ?_
        refine AllReadyH.cons (o := _) rfl (fun K hK => ?_) ?_
        · go_simp
          (with_reducible refine (calc_mul pc _ (KC.out.ext hE) (Va.out.ext hE) (Vb.out.ext hE) La.out Lb.out LP.out).mono ?_); rintro e y12 ⟨vP, rfl, hvP, hy⟩; replace hE := hE.trans hy; replace hvS := hvS.ext hy; replace hBS := hBS.ext hy; replace hvP := hvP.val; obtain ⟨nP, aP, qP, cP, rfl⟩ := hvP.form
          refine hK.out _ _ ?_ (fun hHeld2 => ?_)
          · exact ⟨cell_ext hE dc0, cell_ext hE dc1, cell_ext hE dc2, cell_ext hE dc3⟩
          clear hK K hHeld
          have hHeld := hHeld2
          clear hHeld2
          (try simp only [Act.put, List.getElem_toArray, List.getElem_cons_succ, List.getElem_cons_zero, List.setIfInBounds_toArray, List.set_cons_zero, List.set_cons_succ])
          refine wpAnyH_ready (rs := [7]) (by kernel_rfl) (by simp) ?_
          refine AllReadyH.cons (o := _) rfl (fun K hK => ?_) ?_
          · go_simp
            have hy : Ext (y12) ((y12).alloc (.cells #[.bool false, .slice none 0 0] 24)) := Ext.alloc _ _; have hqP : x7.heap.size ≤ y12.heap.size := hE.size; replace hE := hE.trans hy; have hdSP : pS < y12.heap.size := hBS.lt; replace hvS := hvS.ext hy; replace hBS := hBS.ext hy; replace hvP := hvP.ext hy; have hBP : Blk ((y12).alloc (.cells #[.bool false, .slice none 0 0] 24)) y12.heap.size #[.bool false, .slice none 0 0] 24 := Blk.new0 _ _ _; generalize (y12).alloc (.cells #[.bool false, .slice none 0 0] 24) = y13 at *; generalize y12.heap.size = pP at *
            refine hK.out _ _ ?_ (fun hHeld2 => ?_)
            · exact ⟨cell_ext hE dc0, cell_ext hE dc1, cell_ext hE dc2, cell_ext hE dc3⟩
            clear hK K hHeld
            have hHeld := hHeld2
            clear hHeld2
            (try simp only [Act.put, List.getElem_toArray, List.getElem_cons_succ, List.getElem_cons_zero, List.setIfInBounds_toArray, List.set_cons_zero, List.set_cons_succ])
            refine wpAnyH_ready (rs := [8]) (by kernel_rfl) (by simp) ?_
            refine AllReadyH.cons (o := _) rfl (fun K hK => ?_) ?_
            · go_simp
              have g0 := hBS.cell (i := 0) (v := .bool false) rfl; have g1 := (hBS.set 0 (.bool nS)).cell (i := 1) (v := .slice none 0 0) rfl; have q0 := hBS.free 0; have q1 := (hBS.set 0 (.bool nS)).free 1; go_simp; replace hE := (hE.set (p := ⟨pS, 0, none⟩) hqS (.bool nS)).set (p := ⟨pS, 1, none⟩) hqS (.slice aS qS cS); replace hvS := (hvS.box hBS 0 (.bool nS)).box (hBS.set 0 (.bool nS)) 1 (.slice aS qS cS); replace hvP := (hvP.box hBS 0 (.bool nS)).box (hBS.set 0 (.bool nS)) 1 (.slice aS qS cS); replace hBP := (hBP.other (p := ⟨pS, 0, none⟩) (by dsimp only; omega) (.bool nS)).other (p := ⟨pS, 1, none⟩) (by dsimp only; omega) (.slice aS qS cS); replace hBS := (hBS.set 0 (.bool nS)).set 1 (.slice aS qS cS); clear g0 g1 q0 q1; generalize ((y13).setCell ⟨pS, 0, none⟩ (.bool nS)).setCell ⟨pS, 1, none⟩ (.slice aS qS cS) = y14 at *
              refine hK.out _ _ ?_ (fun hHeld2 => ?_)
              · exact ⟨cell_ext hE dc0, cell_ext hE dc1, cell_ext hE dc2, cell_ext hE dc3⟩
              clear hK K hHeld
              have hHeld := hHeld2
              clear hHeld2
              (try simp only [Act.put, List.getElem_toArray, List.getElem_cons_succ, List.getElem_cons_zero, List.setIfInBounds_toArray, List.set_cons_zero, List.set_cons_succ])
              refine wpAnyH_ready (rs := [9]) (by kernel_rfl) (by simp) ?_
              refine AllReadyH.cons (o := _) rfl (fun K hK => ?_) ?_
              · go_simp
                have g0 := hBP.cell (i := 0) (v := .bool false) rfl; have g1 := (hBP.set 0 (.bool nP)).cell (i := 1) (v := .slice none 0 0) rfl; have q0 := hBP.free 0; have q1 := (hBP.set 0 (.bool nP)).free 1; go_simp; replace hE := (hE.set (p := ⟨pP, 0, none⟩) hqP (.bool nP)).set (p := ⟨pP, 1, none⟩) hqP (.slice aP qP cP); replace hvS := (hvS.box hBP 0 (.bool nP)).box (hBP.set 0 (.bool nP)) 1 (.slice aP qP cP); replace hBS := (hBS.other (p := ⟨pP, 0, none⟩) (by dsimp only; omega) (.bool nP)).other (p := ⟨pP, 1, none⟩) (by dsimp only; omega) (.slice aP qP cP); replace hvP := (hvP.box hBP 0 (.bool nP)).box (hBP.set 0 (.bool nP)) 1 (.slice aP qP cP); replace hBP := (hBP.set 0 (.bool nP)).set 1 (.slice aP qP cP); clear g0 g1 q0 q1; generalize ((y14).setCell ⟨pP, 0, none⟩ (.bool nP)).setCell ⟨pP, 1, none⟩ (.slice aP qP cP) = y15 at *
                refine hK.out _ _ ?_ (fun hHeld2 => ?_)
                · exact ⟨cell_ext hE dc0, cell_ext hE dc1, cell_ext hE dc2, cell_ext hE dc3⟩
                clear hK K hHeld
                have hHeld := hHeld2
                clear hHeld2
                (try simp only [Act.put, List.getElem_toArray, List.getElem_cons_succ, List.getElem_cons_zero, List.setIfInBounds_toArray, List.set_cons_zero, List.set_cons_succ])
                refine wpAnyH_done (by kernel_rfl) ?_ _
                (go_wp2_with fail; go_meet; exact ⟨pS, pP, nS, aS, qS, cS, nP, aP, qP, cP, rfl, rfl, hBS, hBP, hvS, hvP, hE⟩)
              exact AllReadyH.nil
            exact AllReadyH.nil
          exact AllReadyH.nil
        refine AllReadyH.cons (o := _) rfl (fun K hK => ?_) ?_
        · go_simp
          have hy : Ext (y11) ((y11).alloc (.cells #[.bool false, .slice none 0 0] 24)) := Ext.alloc _ _; have hqP : x7.heap.size ≤ y11.heap.size := hE.size; replace hE := hE.trans hy; have hdSP : pS < y11.heap.size := hBS.lt; replace hvS := hvS.ext hy; replace hBS := hBS.ext hy; have hBP : Blk ((y11).alloc (.cells #[.bool false, .slice none 0 0] 24)) y11.heap.size #[.bool false, .slice none 0 0] 24 := Blk.new0 _ _ _; generalize (y11).alloc (.cells #[.bool false, .slice none 0 0] 24) = y16 at *; generalize y11.heap.size = pP at *
          refine hK.out _ _ ?_ (fun hHeld2 => ?_)
          · exact ⟨cell_ext hE dc0, cell_ext hE dc1, cell_ext hE dc2, cell_ext hE dc3⟩
          clear hK K hHeld
          have hHeld := hHeld2
          clear hHeld2
          (try simp only [Act.put, List.getElem_toArray, List.getElem_cons_succ, List.getElem_cons_zero, List.setIfInBounds_toArray, List.set_cons_zero, List.set_cons_succ])
          refine wpAnyH_ready (rs := [5]) (by kernel_rfl) (by simp) ?_
          refine AllReadyH.cons (o := _) rfl (fun K hK => ?_) ?_
          · go_simp
            (with_reducible refine (calc_mul pc _ (KC.out.ext hE) (Va.out.ext hE) (Vb.out.ext hE) La.out Lb.out LP.out).mono ?_); rintro e y17 ⟨vP, rfl, hvP, hy⟩; replace hE := hE.trans hy; replace hvS := hvS.ext hy; replace hBS := hBS.ext hy; replace hBP := hBP.ext hy; replace hvP := hvP.val; obtain ⟨nP, aP, qP, cP, rfl⟩ := hvP.form
            refine hK.out _ _ ?_ (fun hHeld2 => ?_)
            · exact ⟨cell_ext hE dc0, cell_ext hE dc1, cell_ext hE dc2, cell_ext hE dc3⟩
            clear hK K hHeld
            have hHeld := hHeld2
            clear hHeld2
            (try simp only [Act.put, List.getElem_toArray, List.getElem_cons_succ, List.getElem_cons_zero, List.setIfInBounds_toArray, List.set_cons_zero, List.set_cons_succ])
            refine wpAnyH_ready (rs := [8]) (by kernel_rfl) (by simp) ?_
            refine AllReadyH.cons (o := _) rfl (fun K hK => ?_) ?_
            · go_simp
              have g0 := hBS.cell (i := 0) (v := .bool false) rfl; have g1 := (hBS.set 0 (.bool nS)).cell (i := 1) (v := .slice none 0 0) rfl; have q0 := hBS.free 0; have q1 := (hBS.set 0 (.bool nS)).free 1; go_simp; replace hE := (hE.set (p := ⟨pS, 0, none⟩) hqS (.bool nS)).set (p := ⟨pS, 1, none⟩) hqS (.slice aS qS cS); replace hvS := (hvS.box hBS 0 (.bool nS)).box (hBS.set 0 (.bool nS)) 1 (.slice aS qS cS); replace hBP := (hBP.other (p := ⟨pS, 0, none⟩) (by dsimp only; omega) (.bool nS)).other (p := ⟨pS, 1, none⟩) (by dsimp only; omega) (.slice aS qS cS); replace hvP := (hvP.box hBS 0 (.bool nS)).box (hBS.set 0 (.bool nS)) 1 (.slice aS qS cS); replace hBS := (hBS.set 0 (.bool nS)).set 1 (.slice aS qS cS); clear g0 g1 q0 q1; generalize ((y17).setCell ⟨pS, 0, none⟩ (.bool nS)).setCell ⟨pS, 1, none⟩ (.slice aS qS cS) = y18 at *
              refine hK.out _ _ ?_ (fun hHeld2 => ?_)
              · exact ⟨cell_ext hE dc0, cell_ext hE dc1, cell_ext hE dc2, cell_ext hE dc3⟩
              clear hK K hHeld
              have hHeld := hHeld2
              clear hHeld2
              (try simp only [Act.put, List.getElem_toArray, List.getElem_cons_succ, List.getElem_cons_zero, List.setIfInBounds_toArray, List.set_cons_zero, List.set_cons_succ])
              refine wpAnyH_ready (rs := [9]) (by kernel_rfl) (by simp) ?_
              refine AllReadyH.cons (o := _) rfl (fun K hK => ?_) ?_
              · go_simp
                have g0 := hBP.cell (i := 0) (v := .bool false) rfl; have g1 := (hBP.set 0 (.bool nP)).cell (i := 1) (v := .slice none 0 0) rfl; have q0 := hBP.free 0; have q1 := (hBP.set 0 (.bool nP)).free 1; go_simp; replace hE := (hE.set (p := ⟨pP, 0, none⟩) hqP (.bool nP)).set (p := ⟨pP, 1, none⟩) hqP (.slice aP qP cP); replace hvS := (hvS.box hBP 0 (.bool nP)).box (hBP.set 0 (.bool nP)) 1 (.slice aP qP cP); replace hBS := (hBS.other (p := ⟨pP, 0, none⟩) (by dsimp only; omega) (.bool nP)).other (p := ⟨pP, 1, none⟩) (by dsimp only; omega) (.slice aP qP cP); replace hvP := (hvP.box hBP 0 (.bool nP)).box (hBP.set 0 (.bool nP)) 1 (.slice aP qP cP); replace hBP := (hBP.set 0 (.bool nP)).set 1 (.slice aP qP cP); clear g0 g1 q0 q1; generalize ((y18).setCell ⟨pP, 0, none⟩ (.bool nP)).setCell ⟨pP, 1, none⟩ (.slice aP qP cP) = y19 at *
                refine hK.out _ _ ?_ (fun hHeld2 => ?_)
                · exact ⟨cell_ext hE dc0, cell_ext hE dc1, cell_ext hE dc2, cell_ext hE dc3⟩
                clear hK K hHeld
                have hHeld := hHeld2
                clear hHeld2
                (try simp only [Act.put, List.getElem_toArray, List.getElem_cons_succ, List.getElem_cons_zero, List.setIfInBounds_toArray, List.set_cons_zero, List.set_cons_succ])
                refine wpAnyH_done (by kernel_rfl) ?_ _
                (go_wp2_with fail; go_meet; exact ⟨pS, pP, nS, aS, qS, cS, nP, aP, qP, cP, rfl, rfl, hBS, hBP, hvS, hvP, hE⟩)
              exact AllReadyH.nil
            exact AllReadyH.nil
          exact AllReadyH.nil
        exact AllReadyH.nil
      refine AllReadyH.cons (o := _) rfl (fun K hK => ?_) ?_
      · go_simp
        have hy : Ext (y1) ((y1).alloc (.cells #[.bool false, .slice none 0 0] 24)) := Ext.alloc _ _; have hqP : x7.heap.size ≤ y1.heap.size := hE.size; replace hE := hE.trans hy; replace hvS := hvS.ext hy; have hBP : Blk ((y1).alloc (.cells #[.bool false, .slice none 0 0] 24)) y1.heap.size #[.bool false, .slice none 0 0] 24 := Blk.new0 _ _ _; generalize (y1).alloc (.cells #[.bool false, .slice none 0 0] 24) = y20 at *; generalize y1.heap.size = pP at *
        refine hK.out _ _ ?_ (fun hHeld2 => ?_)
        · exact ⟨cell_ext hE dc0, cell_ext hE dc1, cell_ext hE dc2, cell_ext hE dc3⟩
        clear hK K hHeld
        have hHeld := hHeld2
        clear hHeld2
        (try simp only [Act.put, List.getElem_toArray, List.getElem_cons_succ, List.getElem_cons_zero, List.setIfInBounds_toArray, List.set_cons_zero, List.set_cons_succ])
        refine wpAnyH_ready (rs := [5, 6]) (by kernel_rfl) (by simp) ?_
        refine AllReadyH.cons (o := _) rfl (fun K hK => ?_) ?_
        · go_simp
          (with_reducible refine (calc_mul pc _ (KC.out.ext hE) (Va.out.ext hE) (Vb.out.ext hE) La.out Lb.out LP.out).mono ?_); rintro e y21 ⟨vP, rfl, hvP, hy⟩; replace hE := hE.trans hy; replace hvS := hvS.ext hy; replace hBP := hBP.ext hy; replace hvP := hvP.val; obtain ⟨nP, aP, qP, cP, rfl⟩ := hvP.form
          refine hK.out _ _ ?_ (fun hHeld2 => ?_)
          · exact ⟨cell_ext hE dc0, cell_ext hE dc1, cell_ext hE dc2, cell_ext hE dc3⟩
          clear hK K hHeld
          have hHeld := hHeld2
          clear hHeld2
          (try simp only [Act.put, List.getElem_toArray, List.getElem_cons_succ, List.getElem_cons_zero, List.setIfInBounds_toArray, List.set_cons_zero, List.set_cons_succ])
          refine wpAnyH_ready (rs := [6]) (by kernel_rfl) (by simp) ?_
          refine AllReadyH.cons (o := _) rfl (fun K hK => ?_) ?_
          · go_simp
            have hy : Ext (y21) ((y21).alloc (.cells #[.bool false, .slice none 0 0] 24)) := Ext.alloc _ _; have hqS : x7.heap.size ≤ y21.heap.size := hE.size; replace hE := hE.trans hy; have hdPS : pP < y21.heap.size := hBP.lt; replace hvS := hvS.ext hy; replace hBP := hBP.ext hy; replace hvP := hvP.ext hy; have hBS : Blk ((y21).alloc (.cells #[.bool false, .slice none 0 0] 24)) y21.heap.size #[.bool false, .slice none 0 0] 24 := Blk.new0 _ _ _; generalize (y21).alloc (.cells #[.bool false, .slice none 0 0] 24) = y22 at *; generalize y21.heap.size = pS at *
            refine hK.out _ _ ?_ (fun hHeld2 => ?_)
            · exact ⟨cell_ext hE dc0, cell_ext hE dc1, cell_ext hE dc2, cell_ext hE dc3⟩
            clear hK K hHeld
            have hHeld := hHeld2
            clear hHeld2
            (try simp only [Act.put, List.getElem_toArray, List.getElem_cons_succ, List.getElem_cons_zero, List.setIfInBounds_toArray, List.set_cons_zero, List.set_cons_succ])
            refine wpAnyH_ready (rs := [8]) (by kernel_rfl) (by simp) ?_
            refine AllReadyH.cons (o := _) rfl (fun K hK => ?_) ?_
            · go_simp
              have g0 := hBS.cell (i := 0) (v := .bool false) rfl; have g1 := (hBS.set 0 (.bool nS)).cell (i := 1) (v := .slice none 0 0) rfl; have q0 := hBS.free 0; have q1 := (hBS.set 0 (.bool nS)).free 1; go_simp; replace hE := (hE.set (p := ⟨pS, 0, none⟩) hqS (.bool nS)).set (p := ⟨pS, 1, none⟩) hqS (.slice aS qS cS); replace hvS := (hvS.box hBS 0 (.bool nS)).box (hBS.set 0 (.bool nS)) 1 (.slice aS qS cS); replace hBP := (hBP.other (p := ⟨pS, 0, none⟩) (by dsimp only; omega) (.bool nS)).other (p := ⟨pS, 1, none⟩) (by dsimp only; omega) (.slice aS qS cS); replace hvP := (hvP.box hBS 0 (.bool nS)).box (hBS.set 0 (.bool nS)) 1 (.slice aS qS cS); replace hBS := (hBS.set 0 (.bool nS)).set 1 (.slice aS qS cS); clear g0 g1 q0 q1; generalize ((y22).setCell ⟨pS, 0, none⟩ (.bool nS)).setCell ⟨pS, 1, none⟩ (.slice aS qS cS) = y23 at *
              refine hK.out _ _ ?_ (fun hHeld2 => ?_)
              · exact ⟨cell_ext hE dc0, cell_ext hE dc1, cell_ext hE dc2, cell_ext hE dc3⟩
              clear hK K hHeld
              have hHeld := hHeld2
              clear hHeld2
              (try simp only [Act.put, List.getElem_toArray, List.getElem_cons_succ, List.getElem_cons_zero, List.setIfInBounds_toArray, List.set_cons_zero, List.set_cons_succ])
              refine wpAnyH_ready (rs := [9]) (by kernel_rfl) (by simp) ?_
              refine AllReadyH.cons (o := _) rfl (fun K hK => ?_) ?_
              · go_simp
                have g0 := hBP.cell (i := 0) (v := .bool false) rfl; have g1 := (hBP.set 0 (.bool nP)).cell (i := 1) (v := .slice none 0 0) rfl; have q0 := hBP.free 0; have q1 := (hBP.set 0 (.bool nP)).free 1; go_simp; replace hE := (hE.set (p := ⟨pP, 0, none⟩) hqP (.bool nP)).set (p := ⟨pP, 1, none⟩) hqP (.slice aP qP cP); replace hvS := (hvS.box hBP 0 (.bool nP)).box (hBP.set 0 (.bool nP)) 1 (.slice aP qP cP); replace hvP := (hvP.box hBP 0 (.bool nP)).box (hBP.set 0 (.bool nP)) 1 (.slice aP qP cP); replace hBS := (hBS.other (p := ⟨pP, 0, none⟩) (by dsimp only; omega) (.bool nP)).other (p := ⟨pP, 1, none⟩) (by dsimp only; omega) (.slice aP qP cP); replace hBP := (hBP.set 0 (.bool nP)).set 1 (.slice aP qP cP); clear g0 g1 q0 q1; generalize ((y23).setCell ⟨pP, 0, none⟩ (.bool nP)).setCell ⟨pP, 1, none⟩ (.slice aP qP cP) = y24 at *
                refine hK.out _ _ ?_ (fun hHeld2 => ?_)
                · exact ⟨cell_ext hE dc0, cell_ext hE dc1, cell_ext hE dc2, cell_ext hE dc3⟩
                clear hK K hHeld
                have hHeld := hHeld2
                clear hHeld2
                (try simp only [Act.put, List.getElem_toArray, List.getElem_cons_succ, List.getElem_cons_zero, List.setIfInBounds_toArray, List.set_cons_zero, List.set_cons_succ])
                refine wpAnyH_done (by kernel_rfl) ?_ _
                (go_wp2_with fail; go_meet; exact ⟨pS, pP, nS, aS, qS, cS, nP, aP, qP, cP, rfl, rfl, hBS, hBP, hvS, hvP, hE⟩)
              exact AllReadyH.nil
            exact AllReadyH.nil
          exact AllReadyH.nil
        refine AllReadyH.cons (o := _) rfl (fun K hK => ?_) ?_
        · go_simp
          have hy : Ext (y20) ((y20).alloc (.cells #[.bool false, .slice none 0 0] 24)) := Ext.alloc _ _; have hqS : x7.heap.size ≤ y20.heap.size := hE.size; replace hE := hE.trans hy; have hdPS : pP < y20.heap.size := hBP.lt; replace hvS := hvS.ext hy; replace hBP := hBP.ext hy; have hBS : Blk ((y20).alloc (.cells #[.bool false, .slice none 0 0] 24)) y20.heap.size #[.bool false, .slice none 0 0] 24 := Blk.new0 _ _ _; generalize (y20).alloc (.cells #[.bool false, .slice none 0 0] 24) = y25 at *; generalize y20.heap.size = pS at *
          refine hK.out _ _ ?_ (fun hHeld2 => ?_)
          · exact ⟨cell_ext hE dc0, cell_ext hE dc1, cell_ext hE dc2, cell_ext hE dc3⟩
          clear hK K hHeld
          have hHeld := hHeld2
          clear hHeld2
          (try simp only [Act.put, List.getElem_toArray, List.getElem_cons_succ, List.getElem_cons_zero, List.setIfInBounds_toArray, List.set_cons_zero, List.set_cons_succ])
          refine wpAnyH_ready (rs := [5]) (by kernel_rfl) (by simp) ?_
          refine AllReadyH.cons (o := _) rfl (fun K hK => ?_) ?_
          · go_simp
            (with_reducible refine (calc_mul pc _ (KC.out.ext hE) (Va.out.ext hE) (Vb.out.ext hE) La.out Lb.out LP.out).mono ?_); rintro e y26 ⟨vP, rfl, hvP, hy⟩; replace hE := hE.trans hy; replace hvS := hvS.ext hy; replace hBP := hBP.ext hy; replace hBS := hBS.ext hy; replace hvP := hvP.val; obtain ⟨nP, aP, qP, cP, rfl⟩ := hvP.form
            refine hK.out _ _ ?_ (fun hHeld2 => ?_)
            · exact ⟨cell_ext hE dc0, cell_ext hE dc1, cell_ext hE dc2, cell_ext hE dc3⟩
            clear hK K hHeld
            have hHeld := hHeld2
            clear hHeld2
            (try simp only [Act.put, List.getElem_toArray, List.getElem_cons_succ, List.getElem_cons_zero, List.setIfInBounds_toArray, List.set_cons_zero, List.set_cons_succ])
            refine wpAnyH_ready (rs := [8]) (by kernel_rfl) (by simp) ?_
            refine AllReadyH.cons (o := _) rfl (fun K hK => ?_) ?_
            · go_simp
              have g0 := hBS.cell (i := 0) (v := .bool false) rfl; have g1 := (hBS.set 0 (.bool nS)).cell (i := 1) (v := .slice none 0 0) rfl; have q0 := hBS.free 0; have q1 := (hBS.set 0 (.bool nS)).free 1; go_simp; replace hE := (hE.set (p := ⟨pS, 0, none⟩) hqS (.bool nS)).set (p := ⟨pS, 1, none⟩) hqS (.slice aS qS cS); replace hvS := (hvS.box hBS 0 (.bool nS)).box (hBS.set 0 (.bool nS)) 1 (.slice aS qS cS); replace hBP := (hBP.other (p := ⟨pS, 0, none⟩) (by dsimp only; omega) (.bool nS)).other (p := ⟨pS, 1, none⟩) (by dsimp only; omega) (.slice aS qS cS); replace hvP := (hvP.box hBS 0 (.bool nS)).box (hBS.set 0 (.bool nS)) 1 (.slice aS qS cS); replace hBS := (hBS.set 0 (.bool nS)).set 1 (.slice aS qS cS); clear g0 g1 q0 q1; generalize ((y26).setCell ⟨pS, 0, none⟩ (.bool nS)).setCell ⟨pS, 1, none⟩ (.slice aS qS cS) = y27 at *
              refine hK.out _ _ ?_ (fun hHeld2 => ?_)
              · exact ⟨cell_ext hE dc0, cell_ext hE dc1, cell_ext hE dc2, cell_ext hE dc3⟩
              clear hK K hHeld
              have hHeld := hHeld2
              clear hHeld2
              (try simp only [Act.put, List.getElem_toArray, List.getElem_cons_succ, List.getElem_cons_zero, List.setIfInBounds_toArray, List.set_cons_zero, List.set_cons_succ])
              refine wpAnyH_ready (rs := [9]) (by kernel_rfl) (by simp) ?_
              refine AllReadyH.cons (o := _) rfl (fun K hK => ?_) ?_
              · go_simp
                have g0 := hBP.cell (i := 0) (v := .bool false) rfl; have g1 := (hBP.set 0 (.bool nP)).cell (i := 1) (v := .slice none 0 0) rfl; have q0 := hBP.free 0; have q1 := (hBP.set 0 (.bool nP)).free 1; go_simp; replace hE := (hE.set (p := ⟨pP, 0, none⟩) hqP (.bool nP)).set (p := ⟨pP, 1, none⟩) hqP (.slice aP qP cP); replace hvS := (hvS.box hBP 0 (.bool nP)).box (hBP.set 0 (.bool nP)) 1 (.slice aP qP cP); replace hBS := (hBS.other (p := ⟨pP, 0, none⟩) (by dsimp only; omega) (.bool nP)).other (p := ⟨pP, 1, none⟩) (by dsimp only; omega) (.slice aP qP cP); replace hvP := (hvP.box hBP 0 (.bool nP)).box (hBP.set 0 (.bool nP)) 1 (.slice aP qP cP); replace hBP := (hBP.set 0 (.bool nP)).set 1 (.slice aP qP cP); clear g0 g1 q0 q1; generalize ((y27).setCell ⟨pP, 0, none⟩ (.bool nP)).setCell ⟨pP, 1, none⟩ (.slice aP qP cP) = y28 at *
                refine hK.out _ _ ?_ (fun hHeld2 => ?_)
                · exact ⟨cell_ext hE dc0, cell_ext hE dc1, cell_ext hE dc2, cell_ext hE dc3⟩
                clear hK K hHeld
                have hHeld := hHeld2
                clear hHeld2
                (try simp only [Act.put, List.getElem_toArray, List.getElem_cons_succ, List.getElem_cons_zero, List.setIfInBounds_toArray, List.set_cons_zero, List.set_cons_succ])
                refine wpAnyH_done (by kernel_rfl) ?_ _
                (go_wp2_with fail; go_meet; exact ⟨pS, pP, nS, aS, qS, cS, nP, aP, qP, cP, rfl, rfl, hBS, hBP, hvS, hvP, hE⟩)
              exact AllReadyH.nil
            exact AllReadyH.nil
          exact AllReadyH.nil
        exact AllReadyH.nil
      exact AllReadyH.nil
    refine AllReadyH.cons (o := _) rfl (fun K hK => ?_) ?_
    · go_simp
      have hy : Ext (y0) ((y0).alloc (.cells #[.bool false, .slice none 0 0] 24)) := Ext.alloc _ _; have hqS : x7.heap.size ≤ y0.heap.size := hE.size; replace hE := hE.trans hy; have hBS : Blk ((y0).alloc (.cells #[.bool false, .slice none 0 0] 24)) y0.heap.size #[.bool false, .slice none 0 0] 24 := Blk.new0 _ _ _; generalize (y0).alloc (.cells #[.bool false, .slice none 0 0] 24) = y29 at *; generalize y0.heap.size = pS at *
      refine hK.out _ _ ?_ (fun hHeld2 => ?_)
      · exact ⟨cell_ext hE dc0, cell_ext hE dc1, cell_ext hE dc2, cell_ext hE dc3⟩
      clear hK K hHeld
      have hHeld := hHeld2
      clear hHeld2
      (try simp only [Act.put, List.getElem_toArray, List.getElem_cons_succ, List.getElem_cons_zero, List.setIfInBounds_toArray, List.set_cons_zero, List.set_cons_succ])
      refine wpAnyH_ready (rs := [2, 7]) (by kernel_rfl) (by simp) ?_
      refine AllReadyH.cons (o := _) rfl (fun K hK => ?_) ?_
      · go_simp
        (with_reducible refine (calc_add pc _ (KC.out.ext hE) (Va.out.ext hE) (Vb.out.ext hE) La.out Lb.out LS.out).mono ?_); rintro e y30 ⟨vS, rfl, hvS, hy⟩; replace hE := hE.trans hy; replace hBS := hBS.ext hy; replace hvS := hvS.val; obtain ⟨nS, aS, qS, cS, rfl⟩ := hvS.form
        refine hK.out _ _ ?_ (fun hHeld2 => ?_)
        · exact ⟨cell_ext hE dc0, cell_ext hE dc1, cell_ext hE dc2, cell_ext hE dc3⟩
        clear hK K hHeld
        have hHeld := hHeld2
        clear hHeld2
        (try simp only [Act.put, List.getElem_toArray, List.getElem_cons_succ, List.getElem_cons_zero, List.setIfInBounds_toArray, List.set_cons_zero, List.set_cons_succ])
        refine wpAnyH_ready (rs := [5, 7]) (by kernel_rfl) (by simp) ?_
        refine AllReadyH.cons (o := _) rfl (fun K hK => ?_) ?_
        · go_simp
          (with_reducible refine (calc_mul pc _ (KC.out.ext hE) (Va.out.ext hE) (Vb.out.ext hE) La.out Lb.out LP.out).mono ?_); rintro e y31 ⟨vP, rfl, hvP, hy⟩; replace hE := hE.trans hy; replace hBS := hBS.ext hy; replace hvS := hvS.ext hy; replace hvP := hvP.val; obtain ⟨nP, aP, qP, cP, rfl⟩ := hvP.form
          refine hK.out _ _ ?_ (fun hHeld2 => ?_)
          · exact ⟨cell_ext hE dc0, cell_ext hE dc1, cell_ext hE dc2, cell_ext hE dc3⟩
          clear hK K hHeld
          have hHeld := hHeld2
          clear hHeld2
          (try simp only [Act.put, List.getElem_toArray, List.getElem_cons_succ, List.getElem_cons_zero, List.setIfInBounds_toArray, List.set_cons_zero, List.set_cons_succ])
          refine wpAnyH_ready (rs := [7]) (by kernel_rfl) (by simp) ?_
          refine AllReadyH.cons (o := _) rfl (fun K hK => ?_) ?_
          · go_simp
            have hy : Ext (y31) ((y31).alloc (.cells #[.bool false, .slice none 0 0] 24)) := Ext.alloc _ _; have hqP : x7.heap.size ≤ y31.heap.size := hE.size; replace hE := hE.trans hy; have hdSP : pS < y31.heap.size := hBS.lt; replace hBS := hBS.ext hy; replace hvS := hvS.ext hy; replace hvP := hvP.ext hy; have hBP : Blk ((y31).alloc (.cells #[.bool false, .slice none 0 0] 24)) y31.heap.size #[.bool false, .slice none 0 0] 24 := Blk.new0 _ _ _; generalize (y31).alloc (.cells #[.bool false, .slice none 0 0] 24) = y32 at *; generalize y31.heap.size = pP at *
            refine hK.out _ _ ?_ (fun hHeld2 => ?_)
            · exact ⟨cell_ext hE dc0, cell_ext hE dc1, cell_ext hE dc2, cell_ext hE dc3⟩
            clear hK K hHeld
            have hHeld := hHeld2
            clear hHeld2
            (try simp only [Act.put, List.getElem_toArray, List.getElem_cons_succ, List.getElem_cons_zero, List.setIfInBounds_toArray, List.set_cons_zero, List.set_cons_succ])
            refine wpAnyH_ready (rs := [8]) (by kernel_rfl) (by simp) ?_
            refine AllReadyH.cons (o := _) rfl (fun K hK => ?_) ?_
            · go_simp
              have g0 := hBS.cell (i := 0) (v := .bool false) rfl; have g1 := (hBS.set 0 (.bool nS)).cell (i := 1) (v := .slice none 0 0) rfl; have q0 := hBS.free 0; have q1 := (hBS.set 0 (.bool nS)).free 1; go_simp; replace hE := (hE.set (p := ⟨pS, 0, none⟩) hqS (.bool nS)).set (p := ⟨pS, 1, none⟩) hqS (.slice aS qS cS); replace hvS := (hvS.box hBS 0 (.bool nS)).box (hBS.set 0 (.bool nS)) 1 (.slice aS qS cS); replace hvP := (hvP.box hBS 0 (.bool nS)).box (hBS.set 0 (.bool nS)) 1 (.slice aS qS cS); replace hBP := (hBP.other (p := ⟨pS, 0, none⟩) (by dsimp only; omega) (.bool nS)).other (p := ⟨pS, 1, none⟩) (by dsimp only; omega) (.slice aS qS cS); replace hBS := (hBS.set 0 (.bool nS)).set 1 (.slice aS qS cS); clear g0 g1 q0 q1; generalize ((y32).setCell ⟨pS, 0, none⟩ (.bool nS)).setCell ⟨pS, 1, none⟩ (.slice aS qS cS) = y33 at *
              refine hK.out _ _ ?_ (fun hHeld2 => ?_)
              · exact ⟨cell_ext hE dc0, cell_ext hE dc1, cell_ext hE dc2, cell_ext hE dc3⟩
              clear hK K hHeld
              have hHeld := hHeld2
              clear hHeld2
              (try simp only [Act.put, List.getElem_toArray, List.getElem_cons_succ, List.getElem_cons_zero, List.setIfInBounds_toArray, List.set_cons_zero, List.set_cons_succ])
              refine wpAnyH_ready (rs := [9]) (by kernel_rfl) (by simp) ?_
              refine AllReadyH.cons (o := _) rfl (fun K hK => ?_) ?_
              · go_simp
                have g0 := hBP.cell (i := 0) (v := .bool false) rfl; have g1 := (hBP.set 0 (.bool nP)).cell (i := 1) (v := .slice none 0 0) rfl; have q0 := hBP.free 0; have q1 := (hBP.set 0 (.bool nP)).free 1; go_simp; replace hE := (hE.set (p := ⟨pP, 0, none⟩) hqP (.bool nP)).set (p := ⟨pP, 1, none⟩) hqP (.slice aP qP cP); replace hBS := (hBS.other (p := ⟨pP, 0, none⟩) (by dsimp only; omega) (.bool nP)).other (p := ⟨pP, 1, none⟩) (by dsimp only; omega) (.slice aP qP cP); replace hvS := (hvS.box hBP 0 (.bool nP)).box (hBP.set 0 (.bool nP)) 1 (.slice aP qP cP); replace hvP := (hvP.box hBP 0 (.bool nP)).box (hBP.set 0 (.bool nP)) 1 (.slice aP qP cP); replace hBP := (hBP.set 0 (.bool nP)).set 1 (.slice aP qP cP); clear g0 g1 q0 q1; generalize ((y33).setCell ⟨pP, 0, none⟩ (.bool nP)).setCell ⟨pP, 1, none⟩ (.slice aP qP cP) = y34 at *
                refine hK.out _ _ ?_ (fun hHeld2 => ?_)
                · exact ⟨cell_ext hE dc0, cell_ext hE dc1, cell_ext hE dc2, cell_ext hE dc3⟩
                clear hK K hHeld
                have hHeld := hHeld2
                clear hHeld2
                (try simp only [Act.put, List.getElem_toArray, List.getElem_cons_succ, List.getElem_cons_zero, List.setIfInBounds_toArray, List.set_cons_zero, List.set_cons_succ])
                refine wpAnyH_done (by kernel_rfl) ?_ _
                (go_wp2_with fail; go_meet; exact ⟨pS, pP, nS, aS, qS, cS, nP, aP, qP, cP, rfl, rfl, hBS, hBP, hvS, hvP, hE⟩)
              exact AllReadyH.nil
            exact AllReadyH.nil
          exact AllReadyH.nil
        refine AllReadyH.cons (o := _) rfl (fun K hK => ?_) ?_
        · go_simp
          have hy : Ext (y30) ((y30).alloc (.cells #[.bool false, .slice none 0 0] 24)) := Ext.alloc _ _; have hqP : x7.heap.size ≤ y30.heap.size := hE.size; replace hE := hE.trans hy; have hdSP : pS < y30.heap.size := hBS.lt; replace hBS := hBS.ext hy; replace hvS := hvS.ext hy; have hBP : Blk ((y30).alloc (.cells #[.bool false, .slice none 0 0] 24)) y30.heap.size #[.bool false, .slice none 0 0] 24 := Blk.new0 _ _ _; generalize (y30).alloc (.cells #[.bool false, .slice none 0 0] 24) = y35 at *; generalize y30.heap.size = pP at *
          refine hK.out _ _ ?_ (fun hHeld2 => ?_)
          · exact ⟨cell_ext hE dc0, cell_ext hE dc1, cell_ext hE dc2, cell_ext hE dc3⟩
          clear hK K hHeld
          have hHeld := hHeld2
          clear hHeld2
          (try simp only [Act.put, List.getElem_toArray, List.getElem_cons_succ, List.getElem_cons_zero, List.setIfInBounds_toArray, List.set_cons_zero, List.set_cons_succ])
          refine wpAnyH_ready (rs := [5]) (by kernel_rfl) (by simp) ?_
          refine AllReadyH.cons (o := _) rfl (fun K hK => ?_) ?_
          · go_simp
            (with_reducible refine (calc_mul pc _ (KC.out.ext hE) (Va.out.ext hE) (Vb.out.ext hE) La.out Lb.out LP.out).mono ?_); rintro e y36 ⟨vP, rfl, hvP, hy⟩; replace hE := hE.trans hy; replace hBS := hBS.ext hy; replace hvS := hvS.ext hy; replace hBP := hBP.ext hy; replace hvP := hvP.val; obtain ⟨nP, aP, qP, cP, rfl⟩ := hvP.form
            refine hK.out _ _ ?_ (fun hHeld2 => ?_)
            · exact ⟨cell_ext hE dc0, cell_ext hE dc1, cell_ext hE dc2, cell_ext hE dc3⟩
            clear hK K hHeld
            have hHeld := hHeld2
            clear hHeld2
            (try simp only [Act.put, List.getElem_toArray, List.getElem_cons_succ, List.getElem_cons_zero, List.setIfInBounds_toArray, List.set_cons_zero, List.set_cons_succ])
            refine wpAnyH_ready (rs := [8]) (by kernel_rfl) (by simp) ?_
            refine AllReadyH.cons (o := _) rfl (fun K hK => ?_) ?_
            · go_simp
              have g0 := hBS.cell (i := 0) (v := .bool false) rfl; have g1 := (hBS.set 0 (.bool nS)).cell (i := 1) (v := .slice none 0 0) rfl; have q0 := hBS.free 0; have q1 := (hBS.set 0 (.bool nS)).free 1; go_simp; replace hE := (hE.set (p := ⟨pS, 0, none⟩) hqS (.bool nS)).set (p := ⟨pS, 1, none⟩) hqS (.slice aS qS cS); replace hvS := (hvS.box hBS 0 (.bool nS)).box (hBS.set 0 (.bool nS)) 1 (.slice aS qS cS); replace hBP := (hBP.other (p := ⟨pS, 0, none⟩) (by dsimp only; omega) (.bool nS)).other (p := ⟨pS, 1, none⟩) (by dsimp only; omega) (.slice aS qS cS); replace hvP := (hvP.box hBS 0 (.bool nS)).box (hBS.set 0 (.bool nS)) 1 (.slice aS qS cS); replace hBS := (hBS.set 0 (.bool nS)).set 1 (.slice aS qS cS); clear g0 g1 q0 q1; generalize ((y36).setCell ⟨pS, 0, none⟩ (.bool nS)).setCell ⟨pS, 1, none⟩ (.slice aS qS cS) = y37 at *
              refine hK.out _ _ ?_ (fun hHeld2 => ?_)
              · exact ⟨cell_ext hE dc0, cell_ext hE dc1, cell_ext hE dc2, cell_ext hE dc3⟩
              clear hK K hHeld
              have hHeld := hHeld2
              clear hHeld2
              (try simp only [Act.put, List.getElem_toArray, List.getElem_cons_succ, List.getElem_cons_zero, List.setIfInBounds_toArray, List.set_cons_zero, List.set_cons_succ])
              refine wpAnyH_ready (rs := [9]) (by kernel_rfl) (by simp) ?_
              refine AllReadyH.cons (o := _) rfl (fun K hK => ?_) ?_
              · go_simp
                have g0 := hBP.cell (i := 0) (v := .bool false) rfl; have g1 := (hBP.set 0 (.bool nP)).cell (i := 1) (v := .slice none 0 0) rfl; have q0 := hBP.free 0; have q1 := (hBP.set 0 (.bool nP)).free 1; go_simp; replace hE := (hE.set (p := ⟨pP, 0, none⟩) hqP (.bool nP)).set (p := ⟨pP, 1, none⟩) hqP (.slice aP qP cP); replace hBS := (hBS.other (p := ⟨pP, 0, none⟩) (by dsimp only; omega) (.bool nP)).other (p := ⟨pP, 1, none⟩) (by dsimp only; omega) (.slice aP qP cP); replace hvS := (hvS.box hBP 0 (.bool nP)).box (hBP.set 0 (.bool nP)) 1 (.slice aP qP cP); replace hvP := (hvP.box hBP 0 (.bool nP)).box (hBP.set 0 (.bool nP)) 1 (.slice aP qP cP); replace hBP := (hBP.set 0 (.bool nP)).set 1 (.slice aP qP cP); clear g0 g1 q0 q1; generalize ((y37).setCell ⟨pP, 0, none⟩ (.bool nP)).setCell ⟨pP, 1, none⟩ (.slice aP qP cP) = y38 at *
                refine hK.out _ _ ?_ (fun hHeld2 => ?_)
                · exact ⟨cell_ext hE dc0, cell_ext hE dc1, cell_ext hE dc2, cell_ext hE dc3⟩
                clear hK K hHeld
                have hHeld := hHeld2
                clear hHeld2
                (try simp only [Act.put, List.getElem_toArray, List.getElem_cons_succ, List.getElem_cons_zero, List.setIfInBounds_toArray, List.set_cons_zero, List.set_cons_succ])
                refine wpAnyH_done (by kernel_rfl) ?_ _
                (go_wp2_with fail; go_meet; exact ⟨pS, pP, nS, aS, qS, cS, nP, aP, qP, cP, rfl, rfl, hBS, hBP, hvS, hvP, hE⟩)
              exact AllReadyH.nil
            exact AllReadyH.nil
          exact AllReadyH.nil
        exact AllReadyH.nil
      refine AllReadyH.cons (o := _) rfl (fun K hK => ?_) ?_
      · go_simp
        have hy : Ext (y29) ((y29).alloc (.cells #[.bool false, .slice none 0 0] 24)) := Ext.alloc _ _; have hqP : x7.heap.size ≤ y29.heap.size := hE.size; replace hE := hE.trans hy; have hdSP : pS < y29.heap.size := hBS.lt; replace hBS := hBS.ext hy; have hBP : Blk ((y29).alloc (.cells #[.bool false, .slice none 0 0] 24)) y29.heap.size #[.bool false, .slice none 0 0] 24 := Blk.new0 _ _ _; generalize (y29).alloc (.cells #[.bool false, .slice none 0 0] 24) = y39 at *; generalize y29.heap.size = pP at *
        refine hK.out _ _ ?_ (fun hHeld2 => ?_)
        · exact ⟨cell_ext hE dc0, cell_ext hE dc1, cell_ext hE dc2, cell_ext hE dc3⟩
        clear hK K hHeld
        have hHeld := hHeld2
        clear hHeld2
        (try simp only [Act.put, List.getElem_toArray, List.getElem_cons_succ, List.getElem_cons_zero, List.setIfInBounds_toArray, List.set_cons_zero, List.set_cons_succ])
        refine wpAnyH_ready (rs := [2]) (by kernel_rfl) (by simp) ?_
        refine AllReadyH.cons (o := _) rfl (fun K hK => ?_) ?_
        · go_simp
          (with_reducible refine (calc_add pc _ (KC.out.ext hE) (Va.out.ext hE) (Vb.out.ext hE) La.out Lb.out LS.out).mono ?_); rintro e y40 ⟨vS, rfl, hvS, hy⟩; replace hE := hE.trans hy; replace hBS := hBS.ext hy; replace hBP := hBP.ext hy; replace hvS := hvS.val; obtain ⟨nS, aS, qS, cS, rfl⟩ := hvS.form
          refine hK.out _ _ ?_ (fun hHeld2 => ?_)
          · exact ⟨cell_ext hE dc0, cell_ext hE dc1, cell_ext hE dc2, cell_ext hE dc3⟩
          clear hK K hHeld
          have hHeld := hHeld2
          clear hHeld2
          (try simp only [Act.put, List.getElem_toArray, List.getElem_cons_succ, List.getElem_cons_zero, List.setIfInBounds_toArray, List.set_cons_zero, List.set_cons_succ])
          refine wpAnyH_ready (rs := [5]) (by kernel_rfl) (by simp) ?_
          refine AllReadyH.cons (o := _) rfl (fun K hK => ?_) ?_
          · go_simp
            (with_reducible refine (calc_mul pc _ (KC.out.ext hE) (Va.out.ext hE) (Vb.out.ext hE) La.out Lb.out LP.out).mono ?_); rintro e y41 ⟨vP, rfl, hvP, hy⟩; replace hE := hE.trans hy; replace hBS := hBS.ext hy; replace hBP := hBP.ext hy; replace hvS := hvS.ext hy; replace hvP := hvP.val; obtain ⟨nP, aP, qP, cP, rfl⟩ := hvP.form
            refine hK.out _ _ ?_ (fun hHeld2 => ?_)
            · exact ⟨cell_ext hE dc0, cell_ext hE dc1, cell_ext hE dc2, cell_ext hE dc3⟩
            clear hK K hHeld
            have hHeld := hHeld2
            clear hHeld2
            (try simp only [Act.put, List.getElem_toArray, List.getElem_cons_succ, List.getElem_cons_zero, List.setIfInBounds_toArray, List.set_cons_zero, List.set_cons_succ])
            refine wpAnyH_ready (rs := [8]) (by kernel_rfl) (by simp) ?_
            refine AllReadyH.cons (o := _) rfl (fun K hK => ?_) ?_
            · go_simp
              have g0 := hBS.cell (i := 0) (v := .bool false) rfl; have g1 := (hBS.set 0 (.bool nS)).cell (i := 1) (v := .slice none 0 0) rfl; have q0 := hBS.free 0; have q1 := (hBS.set 0 (.bool nS)).free 1; go_simp; replace hE := (hE.set (p := ⟨pS, 0, none⟩) hqS (.bool nS)).set (p := ⟨pS, 1, none⟩) hqS (.slice aS qS cS); replace hBP := (hBP.other (p := ⟨pS, 0, none⟩) (by dsimp only; omega) (.bool nS)).other (p := ⟨pS, 1, none⟩) (by dsimp only; omega) (.slice aS qS cS); replace hvS := (hvS.box hBS 0 (.bool nS)).box (hBS.set 0 (.bool nS)) 1 (.slice aS qS cS); replace hvP := (hvP.box hBS 0 (.bool nS)).box (hBS.set 0 (.bool nS)) 1 (.slice aS qS cS); replace hBS := (hBS.set 0 (.bool nS)).set 1 (.slice aS qS cS); clear g0 g1 q0 q1; generalize ((y41).setCell ⟨pS, 0, none⟩ (.bool nS)).setCell ⟨pS, 1, none⟩ (.slice aS qS cS) = y42 at *
              refine hK.out _ _ ?_ (fun hHeld2 => ?_)
              · exact ⟨cell_ext hE dc0, cell_ext hE dc1, cell_ext hE dc2, cell_ext hE dc3⟩
              clear hK K hHeld
              have hHeld := hHeld2
              clear hHeld2
              (try simp only [Act.put, List.getElem_toArray, List.getElem_cons_succ, List.getElem_cons_zero, List.setIfInBounds_toArray, List.set_cons_zero, List.set_cons_succ])
              refine wpAnyH_ready (rs := [9]) (by kernel_rfl) (by simp) ?_
              refine AllReadyH.cons (o := _) rfl (fun K hK => ?_) ?_
              · go_simp
                have g0 := hBP.cell (i := 0) (v := .bool false) rfl; have g1 := (hBP.set 0 (.bool nP)).cell (i := 1) (v := .slice none 0 0) rfl; have q0 := hBP.free 0; have q1 := (hBP.set 0 (.bool nP)).free 1; go_simp; replace hE := (hE.set (p := ⟨pP, 0, none⟩) hqP (.bool nP)).set (p := ⟨pP, 1, none⟩) hqP (.slice aP qP cP); replace hBS := (hBS.other (p := ⟨pP, 0, none⟩) (by dsimp only; omega) (.bool nP)).other (p := ⟨pP, 1, none⟩) (by dsimp only; omega) (.slice aP qP cP); replace hvS := (hvS.box hBP 0 (.bool nP)).box (hBP.set 0 (.bool nP)) 1 (.slice aP qP cP); replace hvP := (hvP.box hBP 0 (.bool nP)).box (hBP.set 0 (.bool nP)) 1 (.slice aP qP cP); replace hBP := (hBP.set 0 (.bool nP)).set 1 (.slice aP qP cP); clear g0 g1 q0 q1; generalize ((y42).setCell ⟨pP, 0, none⟩ (.bool nP)).setCell ⟨pP, 1, none⟩ (.slice aP qP cP) = y43 at *
                refine hK.out _ _ ?_ (fun hHeld2 => ?_)
                · exact ⟨cell_ext hE dc0, cell_ext hE dc1, cell_ext hE dc2, cell_ext hE dc3⟩
                clear hK K hHeld
                have hHeld := hHeld2
                clear hHeld2
                (try simp only [Act.put, List.getElem_toArray, List.getElem_cons_succ, List.getElem_cons_zero, List.setIfInBounds_toArray, List.set_cons_zero, List.set_cons_succ])
                refine wpAnyH_done (by kernel_rfl) ?_ _
                (go_wp2_with fail; go_meet; exact ⟨pS, pP, nS, aS, qS, cS, nP, aP, qP, cP, rfl, rfl, hBS, hBP, hvS, hvP, hE⟩)
              exact AllReadyH.nil
            exact AllReadyH.nil
          exact AllReadyH.nil
        exact AllReadyH.nil
      exact AllReadyH.nil
    refine AllReadyH.cons (o := _) rfl (fun K hK => ?_) ?_
    · go_simp
      have hy : Ext (y0) ((y0).alloc (.cells #[.bool false, .slice none 0 0] 24)) := Ext.alloc _ _; have hqP : x7.heap.size ≤ y0.heap.size := hE.size; replace hE := hE.trans hy; have hBP : Blk ((y0).alloc (.cells #[.bool false, .slice none 0 0] 24)) y0.heap.size #[.bool false, .slice none 0 0] 24 := Blk.new0 _ _ _; generalize (y0).alloc (.cells #[.bool false, .slice none 0 0] 24) = y44 at *; generalize y0.heap.size = pP at *
      refine hK.out _ _ ?_ (fun hHeld2 => ?_)
      · exact ⟨cell_ext hE dc0, cell_ext hE dc1, cell_ext hE dc2, cell_ext hE dc3⟩
      clear hK K hHeld
      have hHeld := hHeld2
      clear hHeld2
      (try simp only [Act.put, List.getElem_toArray, List.getElem_cons_succ, List.getElem_cons_zero, List.setIfInBounds_toArray, List.set_cons_zero, List.set_cons_succ])
      refine wpAnyH_ready (rs := [2, 6]) (by kernel_rfl) (by simp) ?_
      refine AllReadyH.cons (o := _) rfl (fun K hK => ?_) ?_
      · go_simp
        (with_reducible refine (calc_add pc _ (KC.out.ext hE) (Va.out.ext hE) (Vb.out.ext hE) La.out Lb.out LS.out).mono ?_); rintro e y45 ⟨vS, rfl, hvS, hy⟩; replace hE := hE.trans hy; replace hBP := hBP.ext hy; replace hvS := hvS.val; obtain ⟨nS, aS, qS, cS, rfl⟩ := hvS.form
        refine hK.out _ _ ?_ (fun hHeld2 => ?_)
        · exact ⟨cell_ext hE dc0, cell_ext hE dc1, cell_ext hE dc2, cell_ext hE dc3⟩
        clear hK K hHeld
        have hHeld := hHeld2
        clear hHeld2
        (try simp only [Act.put, List.getElem_toArray, List.getElem_cons_succ, List.getElem_cons_zero, List.setIfInBounds_toArray, List.set_cons_zero, List.set_cons_succ])
        refine wpAnyH_ready (rs := [5, 6]) (by kernel_rfl) (by simp) ?_
        refine AllReadyH.cons (o := _) rfl (fun K hK => ?_) ?_
        · go_simp
          (with_reducible refine (calc_mul pc _ (KC.out.ext hE) (Va.out.ext hE) (Vb.out.ext hE) La.out Lb.out LP.out).mono ?_); rintro e y46 ⟨vP, rfl, hvP, hy⟩; replace hE := hE.trans hy; replace hBP := hBP.ext hy; replace hvS := hvS.ext hy; replace hvP := hvP.val; obtain ⟨nP, aP, qP, cP, rfl⟩ := hvP.form
          refine hK.out _ _ ?_ (fun hHeld2 => ?_)
          · exact ⟨cell_ext hE dc0, cell_ext hE dc1, cell_ext hE dc2, cell_ext hE dc3⟩
          clear hK K hHeld
          have hHeld := hHeld2
          clear hHeld2
          (try simp only [Act.put, List.getElem_toArray, List.getElem_cons_succ, List.getElem_cons_zero, List.setIfInBounds_toArray, List.set_cons_zero, List.set_cons_succ])
          refine wpAnyH_ready (rs := [6]) (by kernel_rfl) (by simp) ?_
          refine AllReadyH.cons (o := _) rfl (fun K hK => ?_) ?_
          · go_simp
            have hy : Ext (y46) ((y46).alloc (.cells #[.bool false, .slice none 0 0] 24)) := Ext.alloc _ _; have hqS : x7.heap.size ≤ y46.heap.size := hE.size; replace hE := hE.trans hy; have hdPS : pP < y46.heap.size := hBP.lt; replace hBP := hBP.ext hy; replace hvS := hvS.ext hy; replace hvP := hvP.ext hy; have hBS : Blk ((y46).alloc (.cells #[.bool false, .slice none 0 0] 24)) y46.heap.size #[.bool false, .slice none 0 0] 24 := Blk.new0 _ _ _; generalize (y46).alloc (.cells #[.bool false, .slice none 0 0] 24) = y47 at *; generalize y46.heap.size = pS at *
            refine hK.out _ _ ?_ (fun hHeld2 => ?_)
            · exact ⟨cell_ext hE dc0, cell_ext hE dc1, cell_ext hE dc2, cell_ext hE dc3⟩
            clear hK K hHeld
            have hHeld := hHeld2
            clear hHeld2
            (try simp only [Act.put, List.getElem_toArray, List.getElem_cons_succ, List.getElem_cons_zero, List.setIfInBounds_toArray, List.set_cons_zero, List.set_cons_succ])
            refine wpAnyH_ready (rs := [8]) (by kernel_rfl) (by simp) ?_
            refine AllReadyH.cons (o := _) rfl (fun K hK => ?_) ?_
            · go_simp
              have g0 := hBS.cell (i := 0) (v := .bool false) rfl; have g1 := (hBS.set 0 (.bool nS)).cell (i := 1) (v := .slice none 0 0) rfl; have q0 := hBS.free 0; have q1 := (hBS.set 0 (.bool nS)).free 1; go_simp; replace hE := (hE.set (p := ⟨pS, 0, none⟩) hqS (.bool nS)).set (p := ⟨pS, 1, none⟩) hqS (.slice aS qS cS); replace hBP := (hBP.other (p := ⟨pS, 0, none⟩) (by dsimp only; omega) (.bool nS)).other (p := ⟨pS, 1, none⟩) (by dsimp only; omega) (.slice aS qS cS); replace hvS := (hvS.box hBS 0 (.bool nS)).box (hBS.set 0 (.bool nS)) 1 (.slice aS qS cS); replace hvP := (hvP.box hBS 0 (.bool nS)).box (hBS.set 0 (.bool nS)) 1 (.slice aS qS cS); replace hBS := (hBS.set 0 (.bool nS)).set 1 (.slice aS qS cS); clear g0 g1 q0 q1; generalize ((y47).setCell ⟨pS, 0, none⟩ (.bool nS)).setCell ⟨pS, 1, none⟩ (.slice aS qS cS) = y48 at *
              refine hK.out _ _ ?_ (fun hHeld2 => ?_)
              · exact ⟨cell_ext hE dc0, cell_ext hE dc1, cell_ext hE dc2, cell_ext hE dc3⟩
              clear hK K hHeld
              have hHeld := hHeld2
              clear hHeld2
              (try simp only [Act.put, List.getElem_toArray, List.getElem_cons_succ, List.getElem_cons_zero, List.setIfInBounds_toArray, List.set_cons_zero, List.set_cons_succ])
              refine wpAnyH_ready (rs := [9]) (by kernel_rfl) (by simp) ?_
              refine AllReadyH.cons (o := _) rfl (fun K hK => ?_) ?_
              · go_simp
                have g0 := hBP.cell (i := 0) (v := .bool false) rfl; have g1 := (hBP.set 0 (.bool nP)).cell (i := 1) (v := .slice none 0 0) rfl; have q0 := hBP.free 0; have q1 := (hBP.set 0 (.bool nP)).free 1; go_simp; replace hE := (hE.set (p := ⟨pP, 0, none⟩) hqP (.bool nP)).set (p := ⟨pP, 1, none⟩) hqP (.slice aP qP cP); replace hvS := (hvS.box hBP 0 (.bool nP)).box (hBP.set 0 (.bool nP)) 1 (.slice aP qP cP); replace hvP := (hvP.box hBP 0 (.bool nP)).box (hBP.set 0 (.bool nP)) 1 (.slice aP qP cP); replace hBS := (hBS.other (p := ⟨pP, 0, none⟩) (by dsimp only; omega) (.bool nP)).other (p := ⟨pP, 1, none⟩) (by dsimp only; omega) (.slice aP qP cP); replace hBP := (hBP.set 0 (.bool nP)).set 1 (.slice aP qP cP); clear g0 g1 q0 q1; generalize ((y48).setCell ⟨pP, 0, none⟩ (.bool nP)).setCell ⟨pP, 1, none⟩ (.slice aP qP cP) = y49 at *
                refine hK.out _ _ ?_ (fun hHeld2 => ?_)
                · exact ⟨cell_ext hE dc0, cell_ext hE dc1, cell_ext hE dc2, cell_ext hE dc3⟩
                clear hK K hHeld
                have hHeld := hHeld2
                clear hHeld2
                (try simp only [Act.put, List.getElem_toArray, List.getElem_cons_succ, List.getElem_cons_zero, List.setIfInBounds_toArray, List.set_cons_zero, List.set_cons_succ])
                refine wpAnyH_done (by kernel_rfl) ?_ _
                (go_wp2_with fail; go_meet; exact ⟨pS, pP, nS, aS, qS, cS, nP, aP, qP, cP, rfl, rfl, hBS, hBP, hvS, hvP, hE⟩)
              exact AllReadyH.nil
            exact AllReadyH.nil
          exact AllReadyH.nil
        refine AllReadyH.cons (o := _) rfl (fun K hK => ?_) ?_
        · go_simp
          have hy : Ext (y45) ((y45).alloc (.cells #[.bool false, .slice none 0 0] 24)) := Ext.alloc _ _; have hqS : x7.heap.size ≤ y45.heap.size := hE.size; replace hE := hE.trans hy; have hdPS : pP < y45.heap.size := hBP.lt; replace hBP := hBP.ext hy; replace hvS := hvS.ext hy; have hBS : Blk ((y45).alloc (.cells #[.bool false, .slice none 0 0] 24)) y45.heap.size #[.bool false, .slice none 0 0] 24 := Blk.new0 _ _ _; generalize (y45).alloc (.cells #[.bool false, .slice none 0 0] 24) = y50 at *; generalize y45.heap.size = pS at *
          refine hK.out _ _ ?_ (fun hHeld2 => ?_)
          · exact ⟨cell_ext hE dc0, cell_ext hE dc1, cell_ext hE dc2, cell_ext hE dc3⟩
          clear hK K hHeld
          have hHeld := hHeld2
          clear hHeld2
          (try simp only [Act.put, List.getElem_toArray, List.getElem_cons_succ, List.getElem_cons_zero, List.setIfInBounds_toArray, List.set_cons_zero, List.set_cons_succ])
          refine wpAnyH_ready (rs := [5]) (by kernel_rfl) (by simp) ?_
          refine AllReadyH.cons (o := _) rfl (fun K hK => ?_) ?_
          · go_simp
            (with_reducible refine (calc_mul pc _ (KC.out.ext hE) (Va.out.ext hE) (Vb.out.ext hE) La.out Lb.out LP.out).mono ?_); rintro e y51 ⟨vP, rfl, hvP, hy⟩; replace hE := hE.trans hy; replace hBP := hBP.ext hy; replace hvS := hvS.ext hy; replace hBS := hBS.ext hy; replace hvP := hvP.val; obtain ⟨nP, aP, qP, cP, rfl⟩ := hvP.form
            refine hK.out _ _ ?_ (fun hHeld2 => ?_)
            · exact ⟨cell_ext hE dc0, cell_ext hE dc1, cell_ext hE dc2, cell_ext hE dc3⟩
            clear hK K hHeld
            have hHeld := hHeld2
            clear hHeld2
            (try simp only [Act.put, List.getElem_toArray, List.getElem_cons_succ, List.getElem_cons_zero, List.setIfInBounds_toArray, List.set_cons_zero, List.set_cons_succ])
            refine wpAnyH_ready (rs := [8]) (by kernel_rfl) (by simp) ?_
            refine AllReadyH.cons (o := _) rfl (fun K hK => ?_) ?_
            · go_simp
              have g0 := hBS.cell (i := 0) (v := .bool false) rfl; have g1 := (hBS.set 0 (.bool nS)).cell (i := 1) (v := .slice none 0 0) rfl; have q0 := hBS.free 0; have q1 := (hBS.set 0 (.bool nS)).free 1; go_simp; replace hE := (hE.set (p := ⟨pS, 0, none⟩) hqS (.bool nS)).set (p := ⟨pS, 1, none⟩) hqS (.slice aS qS cS); replace hBP := (hBP.other (p := ⟨pS, 0, none⟩) (by dsimp only; omega) (.bool nS)).other (p := ⟨pS, 1, none⟩) (by dsimp only; omega) (.slice aS qS cS); replace hvS := (hvS.box hBS 0 (.bool nS)).box (hBS.set 0 (.bool nS)) 1 (.slice aS qS cS); replace hvP := (hvP.box hBS 0 (.bool nS)).box (hBS.set 0 (.bool nS)) 1 (.slice aS qS cS); replace hBS := (hBS.set 0 (.bool nS)).set 1 (.slice aS qS cS); clear g0 g1 q0 q1; generalize ((y51).setCell ⟨pS, 0, none⟩ (.bool nS)).setCell ⟨pS, 1, none⟩ (.slice aS qS cS) = y52 at *
              refine hK.out _ _ ?_ (fun hHeld2 => ?_)
              · exact ⟨cell_ext hE dc0, cell_ext hE dc1, cell_ext hE dc2, cell_ext hE dc3⟩
              clear hK K hHeld
              have hHeld := hHeld2
              clear hHeld2
              (try simp only [Act.put, List.getElem_toArray, List.getElem_cons_succ, List.getElem_cons_zero, List.setIfInBounds_toArray, List.set_cons_zero, List.set_cons_succ])
              refine wpAnyH_ready (rs := [9]) (by kernel_rfl) (by simp) ?_
              refine AllReadyH.cons (o := _) rfl (fun K hK => ?_) ?_
              · go_simp
                have g0 := hBP.cell (i := 0) (v := .bool false) rfl; have g1 := (hBP.set 0 (.bool nP)).cell (i := 1) (v := .slice none 0 0) rfl; have q0 := hBP.free 0; have q1 := (hBP.set 0 (.bool nP)).free 1; go_simp; replace hE := (hE.set (p := ⟨pP, 0, none⟩) hqP (.bool nP)).set (p := ⟨pP, 1, none⟩) hqP (.slice aP qP cP); replace hvS := (hvS.box hBP 0 (.bool nP)).box (hBP.set 0 (.bool nP)) 1 (.slice aP qP cP); replace hBS := (hBS.other (p := ⟨pP, 0, none⟩) (by dsimp only; omega) (.bool nP)).other (p := ⟨pP, 1, none⟩) (by dsimp only; omega) (.slice aP qP cP); replace hvP := (hvP.box hBP 0 (.bool nP)).box (hBP.set 0 (.bool nP)) 1 (.slice aP qP cP); replace hBP := (hBP.set 0 (.bool nP)).set 1 (.slice aP qP cP); clear g0 g1 q0 q1; generalize ((y52).setCell ⟨pP, 0, none⟩ (.bool nP)).setCell ⟨pP, 1, none⟩ (.slice aP qP cP) = y53 at *
                refine hK.out _ _ ?_ (fun hHeld2 => ?_)
                · exact ⟨cell_ext hE dc0, cell_ext hE dc1, cell_ext hE dc2, cell_ext hE dc3⟩
                clear hK K hHeld
                have hHeld := hHeld2
                clear hHeld2
                (try simp only [Act.put, List.getElem_toArray, List.getElem_cons_succ, List.getElem_cons_zero, List.setIfInBounds_toArray, List.set_cons_zero, List.set_cons_succ])
                refine wpAnyH_done (by kernel_rfl) ?_ _
                (go_wp2_with fail; go_meet; exact ⟨pS, pP, nS, aS, qS, cS, nP, aP, qP, cP, rfl, rfl, hBS, hBP, hvS, hvP, hE⟩)
              exact AllReadyH.nil
            exact AllReadyH.nil
          exact AllReadyH.nil
        exact AllReadyH.nil
      refine AllReadyH.cons (o := _) rfl (fun K hK => ?_) ?_
      · go_simp
        have hy : Ext (y44) ((y44).alloc (.cells #[.bool false, .slice none 0 0] 24)) := Ext.alloc _ _; have hqS : x7.heap.size ≤ y44.heap.size := hE.size; replace hE := hE.trans hy; have hdPS : pP < y44.heap.size := hBP.lt; replace hBP := hBP.ext hy; have hBS : Blk ((y44).alloc (.cells #[.bool false, .slice none 0 0] 24)) y44.heap.size #[.bool false, .slice none 0 0] 24 := Blk.new0 _ _ _; generalize (y44).alloc (.cells #[.bool false, .slice none 0 0] 24) = y54 at *; generalize y44.heap.size = pS at *
        refine hK.out _ _ ?_ (fun hHeld2 => ?_)
        · exact ⟨cell_ext hE dc0, cell_ext hE dc1, cell_ext hE dc2, cell_ext hE dc3⟩
        clear hK K hHeld
        have hHeld := hHeld2
        clear hHeld2
        (try simp only [Act.put, List.getElem_toArray, List.getElem_cons_succ, List.getElem_cons_zero, List.setIfInBounds_toArray, List.set_cons_zero, List.set_cons_succ])
        refine wpAnyH_ready (rs := [2]) (by kernel_rfl) (by simp) ?_
        refine AllReadyH.cons (o := _) rfl (fun K hK => ?_) ?_
        · go_simp
          (with_reducible refine (calc_add pc _ (KC.out.ext hE) (Va.out.ext hE) (Vb.out.ext hE) La.out Lb.out LS.out).mono ?_); rintro e y55 ⟨vS, rfl, hvS, hy⟩; replace hE := hE.trans hy; replace hBP := hBP.ext hy; replace hBS := hBS.ext hy; replace hvS := hvS.val; obtain ⟨nS, aS, qS, cS, rfl⟩ := hvS.form
          refine hK.out _ _ ?_ (fun hHeld2 => ?_)
          · exact ⟨cell_ext hE dc0, cell_ext hE dc1, cell_ext hE dc2, cell_ext hE dc3⟩
          clear hK K hHeld
          have hHeld := hHeld2
          clear hHeld2
          (try simp only [Act.put, List.getElem_toArray, List.getElem_cons_succ, List.getElem_cons_zero, List.setIfInBounds_toArray, List.set_cons_zero, List.set_cons_succ])
          refine wpAnyH_ready (rs := [5]) (by kernel_rfl) (by simp) ?_
          refine AllReadyH.cons (o := _) rfl (fun K hK => ?_) ?_
          · go_simp
            (with_reducible refine (calc_mul pc _ (KC.out.ext hE) (Va.out.ext hE) (Vb.out.ext hE) La.out Lb.out LP.out).mono ?_); rintro e y56 ⟨vP, rfl, hvP, hy⟩; replace hE := hE.trans hy; replace hBP := hBP.ext hy; replace hBS := hBS.ext hy; replace hvS := hvS.ext hy; replace hvP := hvP.val; obtain ⟨nP, aP, qP, cP, rfl⟩ := hvP.form
            refine hK.out _ _ ?_ (fun hHeld2 => ?_)
            · exact ⟨cell_ext hE dc0, cell_ext hE dc1, cell_ext hE dc2, cell_ext hE dc3⟩
            clear hK K hHeld
            have hHeld := hHeld2
            clear hHeld2
            (try simp only [Act.put, List.getElem_toArray, List.getElem_cons_succ, List.getElem_cons_zero, List.setIfInBounds_toArray, List.set_cons_zero, List.set_cons_succ])
            refine wpAnyH_ready (rs := [8]) (by kernel_rfl) (by simp) ?_
            refine AllReadyH.cons (o := _) rfl (fun K hK => ?_) ?_
            · go_simp
              have g0 := hBS.cell (i := 0) (v := .bool false) rfl; have g1 := (hBS.set 0 (.bool nS)).cell (i := 1) (v := .slice none 0 0) rfl; have q0 := hBS.free 0; have q1 := (hBS.set 0 (.bool nS)).free 1; go_simp; replace hE := (hE.set (p := ⟨pS, 0, none⟩) hqS (.bool nS)).set (p := ⟨pS, 1, none⟩) hqS (.slice aS qS cS); replace hBP := (hBP.other (p := ⟨pS, 0, none⟩) (by dsimp only; omega) (.bool nS)).other (p := ⟨pS, 1, none⟩) (by dsimp only; omega) (.slice aS qS cS); replace hvS := (hvS.box hBS 0 (.bool nS)).box (hBS.set 0 (.bool nS)) 1 (.slice aS qS cS); replace hvP := (hvP.box hBS 0 (.bool nS)).box (hBS.set 0 (.bool nS)) 1 (.slice aS qS cS); replace hBS := (hBS.set 0 (.bool nS)).set 1 (.slice aS qS cS); clear g0 g1 q0 q1; generalize ((y56).setCell ⟨pS, 0, none⟩ (.bool nS)).setCell ⟨pS, 1, none⟩ (.slice aS qS cS) = y57 at *
              refine hK.out _ _ ?_ (fun hHeld2 => ?_)
              · exact ⟨cell_ext hE dc0, cell_ext hE dc1, cell_ext hE dc2, cell_ext hE dc3⟩
              clear hK K hHeld
              have hHeld := hHeld2
              clear hHeld2
              (try simp only [Act.put, List.getElem_toArray, List.getElem_cons_succ, List.getElem_cons_zero, List.setIfInBounds_toArray, List.set_cons_zero, List.set_cons_succ])
              refine wpAnyH_ready (rs := [9]) (by kernel_rfl) (by simp) ?_
              refine AllReadyH.cons (o := _) rfl (fun K hK => ?_) ?_
              · go_simp
                have g0 := hBP.cell (i := 0) (v := .bool false) rfl; have g1 := (hBP.set 0 (.bool nP)).cell (i := 1) (v := .slice none 0 0) rfl; have q0 := hBP.free 0; have q1 := (hBP.set 0 (.bool nP)).free 1; go_simp; replace hE := (hE.set (p := ⟨pP, 0, none⟩) hqP (.bool nP)).set (p := ⟨pP, 1, none⟩) hqP (.slice aP qP cP); replace hBS := (hBS.other (p := ⟨pP, 0, none⟩) (by dsimp only; omega) (.bool nP)).other (p := ⟨pP, 1, none⟩) (by dsimp only; omega) (.slice aP qP cP); replace hvS := (hvS.box hBP 0 (.bool nP)).box (hBP.set 0 (.bool nP)) 1 (.slice aP qP cP); replace hvP := (hvP.box hBP 0 (.bool nP)).box (hBP.set 0 (.bool nP)) 1 (.slice aP qP cP); replace hBP := (hBP.set 0 (.bool nP)).set 1 (.slice aP qP cP); clear g0 g1 q0 q1; generalize ((y57).setCell ⟨pP, 0, none⟩ (.bool nP)).setCell ⟨pP, 1, none⟩ (.slice aP qP cP) = y58 at *
                refine hK.out _ _ ?_ (fun hHeld2 => ?_)
                · exact ⟨cell_ext hE dc0, cell_ext hE dc1, cell_ext hE dc2, cell_ext hE dc3⟩
                clear hK K hHeld
                have hHeld := hHeld2
                clear hHeld2
                (try simp only [Act.put, List.getElem_toArray, List.getElem_cons_succ, List.getElem_cons_zero, List.setIfInBounds_toArray, List.set_cons_zero, List.set_cons_succ])
                refine wpAnyH_done (by kernel_rfl) ?_ _
                (go_wp2_with fail; go_meet; exact ⟨pS, pP, nS, aS, qS, cS, nP, aP, qP, cP, rfl, rfl, hBS, hBP, hvS, hvP, hE⟩)
              exact AllReadyH.nil
            exact AllReadyH.nil
          exact AllReadyH.nil
        exact AllReadyH.nil
      exact AllReadyH.nil
    exact AllReadyH.nil
  case rest =>
  obtain ⟨pS, pP, nS, aS, qS, cS, nP, aP, qP, cP, rfl, rfl, hBS, hBP, hvS, hvP, hy⟩ := hcut
  replace hx := hx.trans hy
  replace Ka := Lib.hid (Ka.out.ext hy)
  replace Kb := Lib.hid (Kb.out.ext hy)
  replace Kd := Lib.hid (Kd.out.ext hy)
  replace Va := Lib.hid (Va.out.ext hy)
  replace Vb := Lib.hid (Vb.out.ext hy)
  replace Vd := Lib.hid (Vd.out.ext hy)
  replace KC := Lib.hid (KC.out.ext hy)
  have KS := Lib.hid hBS
  have KP := Lib.hid hBP
  have VS := Lib.hid hvS
  have VP := Lib.hid hvP
  clear hy hBS hBP hvS hvP
  go_upto_region 7 with fail
  have D1 : Hid ((zb + za).natAbs < 1073741824 ^ 13) := Lib.hid (add_lt (lt_mono Db.out (by omega)) (lt_mono (m := 12) Da.out (by omega)))
  have L1 := Lib.hid (len_lt D1.out (by omega))
  have D2 : Hid (((za + zb) + zd).natAbs < 1073741824 ^ 14) := Lib.hid (add_lt (lt_mono DS.out (by omega)) (lt_mono (m := 13) Dd.out (by omega)))
  have L2 := Lib.hid (len_lt D2.out (by omega))
  have D3 : Hid ((zb + zd).natAbs < 1073741824 ^ 13) := Lib.hid (add_lt (lt_mono Db.out (by omega)) (lt_mono (m := 12) Dd.out (by omega)))
  have L3 := Lib.hid (len_lt D3.out (by omega))
  have D4 : Hid ((za + (zb + zd)).natAbs < 1073741824 ^ 14) := Lib.hid (add_lt (lt_mono Da.out (by omega)) (lt_mono (m := 13) D3.out (by omega)))
  have L4 := Lib.hid (len_lt D4.out (by omega))
  have D5 : Hid ((zb * za).natAbs < 1073741824 ^ 24) := Lib.hid (mul_lt Db.out Da.out)
  have L5 := Lib.hid (len_lt D5.out (by omega))
  have D6 : Hid (((za * zb) * zd).natAbs < 1073741824 ^ 36) := Lib.hid (mul_lt DP.out Dd.out)
  have L6 := Lib.hid (len_lt D6.out (by omega))
  have D7 : Hid ((zb * zd).natAbs < 1073741824 ^ 24) := Lib.hid (mul_lt Db.out Dd.out)
  have L7 := Lib.hid (len_lt D7.out (by omega))
  have D8 : Hid ((za * (zb * zd)).natAbs < 1073741824 ^ 36) := Lib.hid (mul_lt Da.out D7.out)
  have L8 := Lib.hid (len_lt D8.out (by omega))
  have D9 : Hid (((za + zb) * zd).natAbs < 1073741824 ^ 25) := Lib.hid (mul_lt DS.out Dd.out)
  have L9 := Lib.hid (len_lt D9.out (by omega))
  have D10 : Hid ((za * zd).natAbs < 1073741824 ^ 24) := Lib.hid (mul_lt Da.out Dd.out)
  have L10 := Lib.hid (len_lt D10.out (by omega))
  have D11 : Hid ((zb * zd).natAbs < 1073741824 ^ 24) := Lib.hid (mul_lt Db.out Dd.out)
  have L11 := Lib.hid (len_lt D11.out (by omega))
  have D12 : Hid (((za * zd) + (zb * zd)).natAbs < 1073741824 ^ 25) := Lib.hid (add_lt (lt_mono D10.out (by omega)) (lt_mono (m := 24) D11.out (by omega)))
  have L12 := Lib.hid (len_lt D12.out (by omega))
  have D13 : Hid (((za + zb) - zb).natAbs < 1073741824 ^ 14) := Lib.hid (sub_lt (lt_mono DS.out (by omega)) (lt_mono (m := 13) Db.out (by omega)))
  have L13 := Lib.hid (len_lt D13.out (by omega))
  have D14 : Hid ((za - za).natAbs < 1073741824 ^ 13) := Lib.hid (sub_lt (lt_mono Da.out (by omega)) (lt_mono (m := 12) Da.out (by omega)))
  have L14 := Lib.hid (len_lt D14.out (by omega))
  have D15 : Hid ((0 - zb).natAbs < 1073741824 ^ 13) := Lib.hid (sub_lt (lt_mono D0.out (by omega)) (lt_mono (m := 12) Db.out (by omega)))
  have L15 := Lib.hid (len_lt D15.out (by omega))
  have D16 : Hid ((za + (0 - zb)).natAbs < 1073741824 ^ 14) := Lib.hid (add_lt (lt_mono Da.out (by omega)) (lt_mono (m := 13) D15.out (by omega)))
  have L16 := Lib.hid (len_lt D16.out (by omega))
  have D17 : Hid ((za - zb).natAbs < 1073741824 ^ 13) := Lib.hid (sub_lt (lt_mono Da.out (by omega)) (lt_mono (m := 12) Db.out (by omega)))
  have L17 := Lib.hid (len_lt D17.out (by omega))
  have D18 : Hid ((1 : Int).natAbs < 1073741824 ^ 12) := Lib.hid (Nat.lt_of_lt_of_le (by decide) (Nat.pow_le_pow_right (by omega) (show 1 ≤ 12 by omega)))
  have L18 := Lib.hid (len_lt D18.out (by omega))
  have D19 : Hid ((za * 1).natAbs < 1073741824 ^ 24) := Lib.hid (mul_lt Da.out D18.out)
  have L19 := Lib.hid (len_lt D19.out (by omega))
  have E0 := Lib.hid (show zb + za = za + zb from Int.add_comm _ _)
  have E1 := Lib.hid (show za + (zb + zd) = za + zb + zd from (Int.add_assoc _ _ _).symm)
  have E2 := Lib.hid (show zb * za = za * zb from Int.mul_comm _ _)
  have E3 := Lib.hid (show za * (zb * zd) = za * zb * zd from (Int.mul_assoc _ _ _).symm)
  have E4 := Lib.hid (show za * zd + zb * zd = (za + zb) * zd from (Int.add_mul _ _ _).symm)
  have E5 := Lib.hid (show za = za + zb - zb from by omega)
  have E6 := Lib.hid (show (0 : Int) = za - za from by omega)
  have E7 := Lib.hid (show za - zb = za + (0 - zb) from by omega)
  have E8 := Lib.hid (show za = za * 1 from (Int.mul_one _).symm)
  go_cut [10] (fun s10 wx => ∃ p : Nat, s10 = .slice (some ⟨p, 0, none⟩) 9 9 ∧ Pairs wx p ∧ Ext wc wx)
  case first =>
    have dc0 : wc.cell? ⟨w.heap.size, 0, none⟩ = some (.bool na) := Ka.out.cell (i := 0) rfl
    have dc1 : wc.cell? ⟨w.heap.size, 1, none⟩ = some (.slice aa qa ca) := Ka.out.cell (i := 1) rfl
    have dc2 : wc.cell? ⟨w.heap.size + 1, 0, none⟩ = some (.bool nb) := Kb.out.cell (i := 0) rfl
    have dc3 : wc.cell? ⟨w.heap.size + 1, 1, none⟩ = some (.slice ab qb cb) := Kb.out.cell (i := 1) rfl
    have dc4 : wc.cell? ⟨w.heap.size + 2, 0, none⟩ = some (.bool nd) := Kd.out.cell (i := 0) rfl
    have dc5 : wc.cell? ⟨w.heap.size + 2, 1, none⟩ = some (.slice ad qd cd) := Kd.out.cell (i := 1) rfl
    have dc6 : wc.cell? ⟨pS, 0, none⟩ = some (.bool nS) := KS.out.cell (i := 0) rfl
    have dc7 : wc.cell? ⟨pS, 1, none⟩ = some (.slice aS qS cS) := KS.out.cell (i := 1) rfl
    have dc8 : wc.cell? ⟨pP, 0, none⟩ = some (.bool nP) := KP.out.cell (i := 0) rfl
    have dc9 : wc.cell? ⟨pP, 1, none⟩ = some (.slice aP qP cP) := KP.out.cell (i := 1) rfl
    refine wp_region_begin (S := (fun w' => w'.cell? ⟨w.heap.size, 0, none⟩ = some (.bool na) ∧ w'.cell? ⟨w.heap.size, 1, none⟩ = some (.slice aa qa ca) ∧ w'.cell? ⟨w.heap.size + 1, 0, none⟩ = some (.bool nb) ∧ w'.cell? ⟨w.heap.size + 1, 1, none⟩ = some (.slice ab qb cb) ∧ w'.cell? ⟨w.heap.size + 2, 0, none⟩ = some (.bool nd) ∧ w'.cell? ⟨w.heap.size + 2, 1, none⟩ = some (.slice ad qd cd) ∧ w'.cell? ⟨pS, 0, none⟩ = some (.bool nS) ∧ w'.cell? ⟨pS, 1, none⟩ = some (.slice aS qS cS) ∧ w'.cell? ⟨pP, 0, none⟩ = some (.bool nP) ∧ w'.cell? ⟨pP, 1, none⟩ = some (.slice aP qP cP))) 65 (false :: false :: false :: false :: false :: false :: false :: false :: false :: false :: false :: false :: false :: false :: false :: false :: false :: false :: false :: false :: false :: false :: false :: false :: false :: false :: false :: false :: false :: false :: false :: false :: false :: false :: false :: false :: false :: false :: false :: false :: false :: false :: false :: false :: false :: false :: false :: false :: false :: false :: false :: false :: false :: false :: false :: false :: false :: false :: false :: false :: false :: false :: false :: false :: false :: []) (by kernel_rfl) (by kernel_rfl) ?_ (fun hHeld => ?_)
    · exact ⟨dc0, dc1, dc2, dc3, dc4, dc5, dc6, dc7, dc8, dc9⟩
    refine wpAnyH_takeD (i := 0) (oi := _) (v := ?_) (some 28) rfl (by kernel_rfl) (by kernel_rfl) (by kernel_rfl) (by kernel_rfl) (fun _ _ _ h => h) (Or.inl ⟨by rfl, ?_⟩) (by assumption) ?_
    rotate_left
    · (intro w hSw; (try dsimp only at hSw); (try go_simp); (try with_reducible rfl))
    (try simp only [Act.put, List.getElem_toArray, List.getElem_cons_succ, List.getElem_cons_zero, List.setIfInBounds_toArray, List.set_cons_zero, List.set_cons_succ])
    refine wpAnyH_takeD (i := 1) (oi := _) (v := ?_) (some 29) rfl (by kernel_rfl) (by kernel_rfl) (by kernel_rfl) (by kernel_rfl) (fun _ _ _ h => h) (Or.inl ⟨by rfl, ?_⟩) (by assumption) ?_
    rotate_left
    · (intro w hSw; (try dsimp only at hSw); (try go_simp); (try with_reducible rfl))
    (try simp only [Act.put, List.getElem_toArray, List.getElem_cons_succ, List.getElem_cons_zero, List.setIfInBounds_toArray, List.set_cons_zero, List.set_cons_succ])
    refine wpAnyH_takeD (i := 2) (oi := _) (v := ?_) (some 30) rfl (by kernel_rfl) (by kernel_rfl) (by kernel_rfl) (by kernel_rfl) (fun _ _ _ h => h) (Or.inl ⟨by rfl, ?_⟩) (by assumption) ?_
    rotate_left
    · (intro w hSw; (try dsimp only at hSw); (try go_simp); (try with_reducible rfl))
    (try simp only [Act.put, List.getElem_toArray, List.getElem_cons_succ, List.getElem_cons_zero, List.setIfInBounds_toArray, List.set_cons_zero, List.set_cons_succ])
    refine wpAnyH_takeD (i := 5) (oi := _) (v := ?_) (some 33) rfl (by kernel_rfl) (by kernel_rfl) (by kernel_rfl) (by kernel_rfl) (fun _ _ _ h => h) (Or.inl ⟨by rfl, ?_⟩) (by assumption) ?_
    rotate_left
    · (intro w hSw; (try dsimp only at hSw); (try go_simp); (try with_reducible rfl))
    (try simp only [Act.put, List.getElem_toArray, List.getElem_cons_succ, List.getElem_cons_zero, List.setIfInBounds_toArray, List.set_cons_zero, List.set_cons_succ])
    refine wpAnyH_takeD (i := 6) (oi := _) (v := ?_) (some 34) rfl (by kernel_rfl) (by kernel_rfl) (by kernel_rfl) (by kernel_rfl) (fun _ _ _ h => h) (Or.inl ⟨by rfl, ?_⟩) (by assumption) ?_
    rotate_left
    · (intro w hSw; (try dsimp only at hSw); (try go_simp); (try with_reducible rfl))
    (try simp only [Act.put, List.getElem_toArray, List.getElem_cons_succ, List.getElem_cons_zero, List.setIfInBounds_toArray, List.set_cons_zero, List.set_cons_succ])
    refine wpAnyH_takeD (i := 8) (oi := _) (v := ?_) (some 36) rfl (by kernel_rfl) (by kernel_rfl) (by kernel_rfl) (by kernel_rfl) (fun _ _ _ h => h) (Or.inl ⟨by rfl, ?_⟩) (by assumption) ?_
    rotate_left
    · (intro w hSw; (try dsimp only at hSw); (try go_simp); (try with_reducible rfl))
    (try simp only [Act.put, List.getElem_toArray, List.getElem_cons_succ, List.getElem_cons_zero, List.setIfInBounds_toArray, List.set_cons_zero, List.set_cons_succ])
    refine wpAnyH_takeD (i := 9) (oi := _) (v := ?_) (some 37) rfl (by kernel_rfl) (by kernel_rfl) (by kernel_rfl) (by kernel_rfl) (fun _ _ _ h => h) (Or.inl ⟨by rfl, ?_⟩) (by assumption) ?_
    rotate_left
    · (intro w hSw; (try dsimp only at hSw); (try go_simp); (try with_reducible rfl))
    (try simp only [Act.put, List.getElem_toArray, List.getElem_cons_succ, List.getElem_cons_zero, List.setIfInBounds_toArray, List.set_cons_zero, List.set_cons_succ])
    refine wpAnyH_takeD (i := 10) (oi := _) (v := ?_) (some 38) rfl (by kernel_rfl) (by kernel_rfl) (by kernel_rfl) (by kernel_rfl) (fun _ _ _ h => h) (Or.inl ⟨by rfl, ?_⟩) (by assumption) ?_
    rotate_left
    · (intro w hSw; (try dsimp only at hSw); (try go_simp); (try with_reducible rfl))
    (try simp only [Act.put, List.getElem_toArray, List.getElem_cons_succ, List.getElem_cons_zero, List.setIfInBounds_toArray, List.set_cons_zero, List.set_cons_succ])
    refine wpAnyH_takeD (i := 14) (oi := _) (v := ?_) (some 42) rfl (by kernel_rfl) (by kernel_rfl) (by kernel_rfl) (by kernel_rfl) (fun _ _ _ h => h) (Or.inl ⟨by rfl, ?_⟩) (by assumption) ?_
    rotate_left
    · (intro w hSw; (try dsimp only at hSw); (try go_simp); (try with_reducible rfl))
    (try simp only [Act.put, List.getElem_toArray, List.getElem_cons_succ, List.getElem_cons_zero, List.setIfInBounds_toArray, List.set_cons_zero, List.set_cons_succ])
    refine wpAnyH_takeD (i := 15) (oi := _) (v := ?_) (some 43) rfl (by kernel_rfl) (by kernel_rfl) (by kernel_rfl) (by kernel_rfl) (fun _ _ _ h => h) (Or.inl ⟨by rfl, ?_⟩) (by assumption) ?_
    rotate_left
    · (intro w hSw; (try dsimp only at hSw); (try go_simp); (try with_reducible rfl))
    (try simp only [Act.put, List.getElem_toArray, List.getElem_cons_succ, List.getElem_cons_zero, List.setIfInBounds_toArray, List.set_cons_zero, List.set_cons_succ])
    refine wpAnyH_takeD (i := 16) (oi := _) (v := ?_) (some 44) rfl (by kernel_rfl) (by kernel_rfl) (by kernel_rfl) (by kernel_rfl) (fun _ _ _ h => h) (Or.inl ⟨by rfl, ?_⟩) (by assumption) ?_
    rotate_left
    · (intro w hSw; (try dsimp only at hSw); (try go_simp); (try with_reducible rfl))
    (try simp only [Act.put, List.getElem_toArray, List.getElem_cons_succ, List.getElem_cons_zero, List.setIfInBounds_toArray, List.set_cons_zero, List.set_cons_succ])
    refine wpAnyH_takeD (i := 19) (oi := _) (v := ?_) (some 47) rfl (by kernel_rfl) (by kernel_rfl) (by kernel_rfl) (by kernel_rfl) (fun _ _ _ h => h) (Or.inl ⟨by rfl, ?_⟩) (by assumption) ?_
    rotate_left
    · (intro w hSw; (try dsimp only at hSw); (try go_simp); (try with_reducible rfl))
    (try simp only [Act.put, List.getElem_toArray, List.getElem_cons_succ, List.getElem_cons_zero, List.setIfInBounds_toArray, List.set_cons_zero, List.set_cons_succ])
    refine wpAnyH_takeD (i := 20) (oi := _) (v := ?_) (some 48) rfl (by kernel_rfl) (by kernel_rfl) (by kernel_rfl) (by kernel_rfl) (fun _ _ _ h => h) (Or.inl ⟨by rfl, ?_⟩) (by assumption) ?_
    rotate_left
    · (intro w hSw; (try dsimp only at hSw); (try go_simp); (try with_reducible rfl))
    (try simp only [Act.put, List.getElem_toArray, List.getElem_cons_succ, List.getElem_cons_zero, List.setIfInBounds_toArray, List.set_cons_zero, List.set_cons_succ])
    refine wpAnyH_takeD (i := 22) (oi := _) (v := ?_) (some 50) rfl (by kernel_rfl) (by kernel_rfl) (by kernel_rfl) (by kernel_rfl) (fun _ _ _ h => h) (Or.inl ⟨by rfl, ?_⟩) (by assumption) ?_
    rotate_left
    · (intro w hSw; (try dsimp only at hSw); (try go_simp); (try with_reducible rfl))
    (try simp only [Act.put, List.getElem_toArray, List.getElem_cons_succ, List.getElem_cons_zero, List.setIfInBounds_toArray, List.set_cons_zero, List.set_cons_succ])
    refine wpAnyH_takeD (i := 23) (oi := _) (v := ?_) (some 51) rfl (by kernel_rfl) (by kernel_rfl) (by kernel_rfl) (by kernel_rfl) (fun _ _ _ h => h) (Or.inl ⟨by rfl, ?_⟩) (by assumption) ?_
    rotate_left
    · (intro w hSw; (try dsimp only at hSw); (try go_simp); (try with_reducible rfl))
    (try simp only [Act.put, List.getElem_toArray, List.getElem_cons_succ, List.getElem_cons_zero, List.setIfInBounds_toArray, List.set_cons_zero, List.set_cons_succ])
    refine wpAnyH_takeD (i := 24) (oi := _) (v := ?_) (some 52) rfl (by kernel_rfl) (by kernel_rfl) (by kernel_rfl) (by kernel_rfl) (fun _ _ _ h => h) (Or.inl ⟨by rfl, ?_⟩) (by assumption) ?_
    rotate_left
    · (intro w hSw; (try dsimp only at hSw); (try go_simp); (try with_reducible rfl))
    (try simp only [Act.put, List.getElem_toArray, List.getElem_cons_succ, List.getElem_cons_zero, List.setIfInBounds_toArray, List.set_cons_zero, List.set_cons_succ])
    refine wpAnyH_takeD (i := 28) (oi := _) (v := ?_) (some 56) rfl (by kernel_rfl) (by kernel_rfl) (by kernel_rfl) (by kernel_rfl) (fun _ _ _ h => h) (Or.inl ⟨by rfl, ?_⟩) (by assumption) ?_
    rotate_left
    · (intro w hSw; (try dsimp only at hSw); (try go_simp); (try with_reducible rfl))
    (try simp only [Act.put, List.getElem_toArray, List.getElem_cons_succ, List.getElem_cons_zero, List.setIfInBounds_toArray, List.set_cons_zero, List.set_cons_succ])
    refine wpAnyH_takeD (i := 29) (oi := _) (v := ?_) (some 57) rfl (by kernel_rfl) (by kernel_rfl) (by kernel_rfl) (by kernel_rfl) (fun _ _ _ h => h) (Or.inl ⟨by rfl, ?_⟩) (by assumption) ?_
    rotate_left
    · (intro w hSw; (try dsimp only at hSw); (try go_simp); (try with_reducible rfl))
    (try simp only [Act.put, List.getElem_toArray, List.getElem_cons_succ, List.getElem_cons_zero, List.setIfInBounds_toArray, List.set_cons_zero, List.set_cons_succ])
    refine wpAnyH_takeD (i := 31) (oi := _) (v := ?_) (some 59) rfl (by kernel_rfl) (by kernel_rfl) (by kernel_rfl) (by kernel_rfl) (fun _ _ _ h => h) (Or.inl ⟨by rfl, ?_⟩) (by assumption) ?_
    rotate_left
    · (intro w hSw; (try dsimp only at hSw); (try go_simp); (try with_reducible rfl))
    (try simp only [Act.put, List.getElem_toArray, List.getElem_cons_succ, List.getElem_cons_zero, List.setIfInBounds_toArray, List.set_cons_zero, List.set_cons_succ])
    refine wpAnyH_takeD (i := 32) (oi := _) (v := ?_) (some 60) rfl (by kernel_rfl) (by kernel_rfl) (by kernel_rfl) (by kernel_rfl) (fun _ _ _ h => h) (Or.inl ⟨by rfl, ?_⟩) (by assumption) ?_
    rotate_left
    · (intro w hSw; (try dsimp only at hSw); (try go_simp); (try with_reducible rfl))
    (try simp only [Act.put, List.getElem_toArray, List.getElem_cons_succ, List.getElem_cons_zero, List.setIfInBounds_toArray, List.set_cons_zero, List.set_cons_succ])
    refine wpAnyH_takeD (i := 34) (oi := _) (v := ?_) (some 62) rfl (by kernel_rfl) (by kernel_rfl) (by kernel_rfl) (by kernel_rfl) (fun _ _ _ h => h) (Or.inl ⟨by rfl, ?_⟩) (by assumption) ?_
    rotate_left
    · (intro w hSw; (try dsimp only at hSw); (try go_simp); (try with_reducible rfl))
    (try simp only [Act.put, List.getElem_toArray, List.getElem_cons_succ, List.getElem_cons_zero, List.setIfInBounds_toArray, List.set_cons_zero, List.set_cons_succ])
    refine wpAnyH_takeD (i := 35) (oi := _) (v := ?_) (some 63) rfl (by kernel_rfl) (by kernel_rfl) (by kernel_rfl) (by kernel_rfl) (fun _ _ _ h => h) (Or.inl ⟨by rfl, ?_⟩) (by assumption) ?_
    rotate_left
    · (intro w hSw; (try dsimp only at hSw); (try go_simp); (try with_reducible rfl))
    (try simp only [Act.put, List.getElem_toArray, List.getElem_cons_succ, List.getElem_cons_zero, List.setIfInBounds_toArray, List.set_cons_zero, List.set_cons_succ])
    refine wpAnyH_takeD (i := 39) (oi := _) (v := ?_) (some 67) rfl (by kernel_rfl) (by kernel_rfl) (by kernel_rfl) (by kernel_rfl) (fun _ _ _ h => h) (Or.inl ⟨by rfl, ?_⟩) (by assumption) ?_
    rotate_left
    · (intro w hSw; (try dsimp only at hSw); (try go_simp); (try with_reducible rfl))
    (try simp only [Act.put, List.getElem_toArray, List.getElem_cons_succ, List.getElem_cons_zero, List.setIfInBounds_toArray, List.set_cons_zero, List.set_cons_succ])
    refine wpAnyH_takeD (i := 40) (oi := _) (v := ?_) (some 68) rfl (by kernel_rfl) (by kernel_rfl) (by kernel_rfl) (by kernel_rfl) (fun _ _ _ h => h) (Or.inl ⟨by rfl, ?_⟩) (by assumption) ?_
    rotate_left
    · (intro w hSw; (try dsimp only at hSw); (try go_simp); (try with_reducible rfl))
    (try simp only [Act.put, List.getElem_toArray, List.getElem_cons_succ, List.getElem_cons_zero, List.setIfInBounds_toArray, List.set_cons_zero, List.set_cons_succ])
    refine wpAnyH_takeD (i := 42) (oi := _) (v := ?_) (some 70) rfl (by kernel_rfl) (by kernel_rfl) (by kernel_rfl) (by kernel_rfl) (fun _ _ _ h => h) (Or.inl ⟨by rfl, ?_⟩) (by assumption) ?_
    rotate_left
    · (intro w hSw; (try dsimp only at hSw); (try go_simp); (try with_reducible rfl))
    (try simp only [Act.put, List.getElem_toArray, List.getElem_cons_succ, List.getElem_cons_zero, List.setIfInBounds_toArray, List.set_cons_zero, List.set_cons_succ])
    refine wpAnyH_takeD (i := 44) (oi := _) (v := ?_) (some 72) rfl (by kernel_rfl) (by kernel_rfl) (by kernel_rfl) (by kernel_rfl) (fun _ _ _ h => h) (Or.inl ⟨by rfl, ?_⟩) (by assumption) ?_
    rotate_left
    · (intro w hSw; (try dsimp only at hSw); (try go_simp); (try with_reducible rfl))
    (try simp only [Act.put, List.getElem_toArray, List.getElem_cons_succ, List.getElem_cons_zero, List.setIfInBounds_toArray, List.set_cons_zero, List.set_cons_succ])
    refine wpAnyH_takeD (i := 45) (oi := _) (v := ?_) (some 73) rfl (by kernel_rfl) (by kernel_rfl) (by kernel_rfl) (by kernel_rfl) (fun _ _ _ h => h) (Or.inl ⟨by rfl, ?_⟩) (by assumption) ?_
    rotate_left
    · (intro w hSw; (try dsimp only at hSw); (try go_simp); (try with_reducible rfl))
    (try simp only [Act.put, List.getElem_toArray, List.getElem_cons_succ, List.getElem_cons_zero, List.setIfInBounds_toArray, List.set_cons_zero, List.set_cons_succ])
    refine wpAnyH_takeD (i := 47) (oi := _) (v := ?_) (some 75) rfl (by kernel_rfl) (by kernel_rfl) (by kernel_rfl) (by kernel_rfl) (fun _ _ _ h => h) (Or.inl ⟨by rfl, ?_⟩) (by assumption) ?_
    rotate_left
    · (intro w hSw; (try dsimp only at hSw); (try go_simp); (try with_reducible rfl))
    (try simp only [Act.put, List.getElem_toArray, List.getElem_cons_succ, List.getElem_cons_zero, List.setIfInBounds_toArray, List.set_cons_zero, List.set_cons_succ])
    refine wpAnyH_takeD (i := 49) (oi := _) (v := ?_) (some 77) rfl (by kernel_rfl) (by kernel_rfl) (by kernel_rfl) (by kernel_rfl) (fun _ _ _ h => h) (Or.inl ⟨by rfl, ?_⟩) (by assumption) ?_
    rotate_left
    · (intro w hSw; (try dsimp only at hSw); (try go_simp); (try with_reducible rfl))
    (try simp only [Act.put, List.getElem_toArray, List.getElem_cons_succ, List.getElem_cons_zero, List.setIfInBounds_toArray, List.set_cons_zero, List.set_cons_succ])
    refine wpAnyH_takeD (i := 50) (oi := _) (v := ?_) (some 78) rfl (by kernel_rfl) (by kernel_rfl) (by kernel_rfl) (by kernel_rfl) (fun _ _ _ h => h) (Or.inl ⟨by rfl, ?_⟩) (by assumption) ?_
    rotate_left
    · (intro w hSw; (try dsimp only at hSw); (try go_simp); (try with_reducible rfl))
    (try simp only [Act.put, List.getElem_toArray, List.getElem_cons_succ, List.getElem_cons_zero, List.setIfInBounds_toArray, List.set_cons_zero, List.set_cons_succ])
    refine wpAnyH_takeD (i := 51) (oi := _) (v := ?_) (some 79) rfl (by kernel_rfl) (by kernel_rfl) (by kernel_rfl) (by kernel_rfl) (fun _ _ _ h => h) (Or.inl ⟨by rfl, ?_⟩) (by assumption) ?_
    rotate_left
    · (intro w hSw; (try dsimp only at hSw); (try go_simp); (try with_reducible rfl))
    (try simp only [Act.put, List.getElem_toArray, List.getElem_cons_succ, List.getElem_cons_zero, List.setIfInBounds_toArray, List.set_cons_zero, List.set_cons_succ])
    refine wpAnyH_takeD (i := 54) (oi := _) (v := ?_) (some 82) rfl (by kernel_rfl) (by kernel_rfl) (by kernel_rfl) (by kernel_rfl) (fun _ _ _ h => h) (Or.inl ⟨by rfl, ?_⟩) (by assumption) ?_
    rotate_left
    · (intro w hSw; (try dsimp only at hSw); (try go_simp); (try with_reducible rfl))
    (try simp only [Act.put, List.getElem_toArray, List.getElem_cons_succ, List.getElem_cons_zero, List.setIfInBounds_toArray, List.set_cons_zero, List.set_cons_succ])
    refine wpAnyH_takeD (i := 55) (oi := _) (v := ?_) (some 83) rfl (by kernel_rfl) (by kernel_rfl) (by kernel_rfl) (by kernel_rfl) (fun _ _ _ h => h) (Or.inl ⟨by rfl, ?_⟩) (by assumption) ?_
    rotate_left
    · (intro w hSw; (try dsimp only at hSw); (try go_simp); (try with_reducible rfl))
    (try simp only [Act.put, List.getElem_toArray, List.getElem_cons_succ, List.getElem_cons_zero, List.setIfInBounds_toArray, List.set_cons_zero, List.set_cons_succ])
    refine wpAnyH_takeD (i := 58) (oi := _) (v := ?_) (some 86) rfl (by kernel_rfl) (by kernel_rfl) (by kernel_rfl) (by kernel_rfl) (fun _ _ _ h => h) (Or.inl ⟨by rfl, ?_⟩) (by assumption) ?_
    rotate_left
    · (intro w hSw; (try dsimp only at hSw); (try go_simp); (try with_reducible rfl))
    (try simp only [Act.put, List.getElem_toArray, List.getElem_cons_succ, List.getElem_cons_zero, List.setIfInBounds_toArray, List.set_cons_zero, List.set_cons_succ])
    refine wpAnyH_takeD (i := 61) (oi := _) (v := ?_) (some 89) rfl (by kernel_rfl) (by kernel_rfl) (by kernel_rfl) (by kernel_rfl) (fun _ _ _ h => h) (Or.inl ⟨by rfl, ?_⟩) (by assumption) ?_
    rotate_left
    · (intro w hSw; (try dsimp only at hSw); (try go_simp); (try with_reducible rfl))
    (try simp only [Act.put, List.getElem_toArray, List.getElem_cons_succ, List.getElem_cons_zero, List.setIfInBounds_toArray, List.set_cons_zero, List.set_cons_succ])
    refine wpAnyH_steps (3 :: 4 :: 7 :: 11 :: 12 :: 13 :: 17 :: 18 :: 21 :: 25 :: 26 :: 27 :: 30 :: 33 :: 36 :: 37 :: 38 :: 41 :: 43 :: 46 :: 48 :: 52 :: 53 :: 56 :: 57 :: 59 :: 60 :: 62 :: 63 :: 64 :: []) ((fun _ _ _ => True) ::
        (fun _ _ _ => True) ::
        (fun _ _ _ => True) ::
        (fun v _ w2 => BigV w2 v (zb + za) ∧ True) ::
        (fun v _ w2 => ∃ (n1 : Bool) (a1 : Option Addr) (q1 c1 : Nat) (n2 : Bool) (a2 : Option Addr) (q2 c2 : Nat) (z : Int), v = .agg #[.bool n1, .slice a1 q1 c1, .bool n2, .slice a2 q2 c2] ∧ BigV w2 (.agg #[.bool n1, .slice a1 q1 c1]) z ∧ BigV w2 (.agg #[.bool n2, .slice a2 q2 c2]) z) ::
        (fun _ _ _ => True) ::
        (fun _ _ _ => True) ::
        (fun v _ w2 => BigV w2 v ((za + zb) + zd) ∧ True) ::
        (fun _ _ _ => True) ::
        (fun _ _ _ => True) ::
        (fun _ _ _ => True) ::
        (fun v _ w2 => BigV w2 v (zb + zd) ∧ True) ::
        (fun v _ w2 => BigV w2 v (za + (zb + zd)) ∧ True) ::
        (fun v _ w2 => ∃ (n1 : Bool) (a1 : Option Addr) (q1 c1 : Nat) (n2 : Bool) (a2 : Option Addr) (q2 c2 : Nat) (z : Int), v = .agg #[.bool n1, .slice a1 q1 c1, .bool n2, .slice a2 q2 c2] ∧ BigV w2 (.agg #[.bool n1, .slice a1 q1 c1]) z ∧ BigV w2 (.agg #[.bool n2, .slice a2 q2 c2]) z) ::
        (fun _ _ _ => True) ::
        (fun _ _ _ => True) ::
        (fun _ _ _ => True) ::
        (fun v _ w2 => BigV w2 v (zb * za) ∧ True) ::
        (fun v _ w2 => ∃ (n1 : Bool) (a1 : Option Addr) (q1 c1 : Nat) (n2 : Bool) (a2 : Option Addr) (q2 c2 : Nat) (z : Int), v = .agg #[.bool n1, .slice a1 q1 c1, .bool n2, .slice a2 q2 c2] ∧ BigV w2 (.agg #[.bool n1, .slice a1 q1 c1]) z ∧ BigV w2 (.agg #[.bool n2, .slice a2 q2 c2]) z) ::
        (fun _ _ _ => True) ::
        (fun _ _ _ => True) ::
        (fun v _ w2 => BigV w2 v ((za * zb) * zd) ∧ True) ::
        (fun _ _ _ => True) ::
        (fun _ _ _ => True) ::
        (fun _ _ _ => True) ::
        (fun v _ w2 => BigV w2 v (zb * zd) ∧ True) ::
        (fun v _ w2 => BigV w2 v (za * (zb * zd)) ∧ True) ::
        (fun v _ w2 => ∃ (n1 : Bool) (a1 : Option Addr) (q1 c1 : Nat) (n2 : Bool) (a2 : Option Addr) (q2 c2 : Nat) (z : Int), v = .agg #[.bool n1, .slice a1 q1 c1, .bool n2, .slice a2 q2 c2] ∧ BigV w2 (.agg #[.bool n1, .slice a1 q1 c1]) z ∧ BigV w2 (.agg #[.bool n2, .slice a2 q2 c2]) z) ::
        (fun _ _ _ => True) ::
        (fun _ _ _ => True) ::
        (fun v _ w2 => BigV w2 v ((za + zb) * zd) ∧ True) ::
        (fun _ _ _ => True) ::
        (fun _ _ _ => True) ::
        (fun v _ w2 => BigV w2 v (za * zd) ∧ True) ::
        (fun _ _ _ => True) ::
        (fun _ _ _ => True) ::
        (fun v _ w2 => BigV w2 v (zb * zd) ∧ True) ::
        (fun v _ w2 => BigV w2 v ((za * zd) + (zb * zd)) ∧ True) ::
        (fun v _ w2 => ∃ (n1 : Bool) (a1 : Option Addr) (q1 c1 : Nat) (n2 : Bool) (a2 : Option Addr) (q2 c2 : Nat) (z : Int), v = .agg #[.bool n1, .slice a1 q1 c1, .bool n2, .slice a2 q2 c2] ∧ BigV w2 (.agg #[.bool n1, .slice a1 q1 c1]) z ∧ BigV w2 (.agg #[.bool n2, .slice a2 q2 c2]) z) ::
        (fun _ _ _ => True) ::
        (fun _ _ _ => True) ::
        (fun v _ w2 => BigV w2 v ((za + zb) - zb) ∧ True) ::
        (fun _ _ _ => True) ::
        (fun v _ w2 => ∃ (n1 : Bool) (a1 : Option Addr) (q1 c1 : Nat) (n2 : Bool) (a2 : Option Addr) (q2 c2 : Nat) (z : Int), v = .agg #[.bool n1, .slice a1 q1 c1, .bool n2, .slice a2 q2 c2] ∧ BigV w2 (.agg #[.bool n1, .slice a1 q1 c1]) z ∧ BigV w2 (.agg #[.bool n2, .slice a2 q2 c2]) z) ::
        (fun _ _ _ => True) ::
        (fun _ _ _ => True) ::
        (fun v _ w2 => BigV w2 v (za - za) ∧ True) ::
        (fun _ _ _ => True) ::
        (fun v _ w2 => ∃ (n1 : Bool) (a1 : Option Addr) (q1 c1 : Nat) (n2 : Bool) (a2 : Option Addr) (q2 c2 : Nat) (z : Int), v = .agg #[.bool n1, .slice a1 q1 c1, .bool n2, .slice a2 q2 c2] ∧ BigV w2 (.agg #[.bool n1, .slice a1 q1 c1]) z ∧ BigV w2 (.agg #[.bool n2, .slice a2 q2 c2]) z) ::
        (fun _ _ _ => True) ::
        (fun _ _ _ => True) ::
        (fun _ _ _ => True) ::
        (fun v _ w2 => BigV w2 v (0 - zb) ∧ True) ::
        (fun v _ w2 => BigV w2 v (za + (0 - zb)) ∧ True) ::
        (fun _ _ _ => True) ::
        (fun _ _ _ => True) ::
        (fun v _ w2 => BigV w2 v (za - zb) ∧ True) ::
        (fun v _ w2 => ∃ (n1 : Bool) (a1 : Option Addr) (q1 c1 : Nat) (n2 : Bool) (a2 : Option Addr) (q2 c2 : Nat) (z : Int), v = .agg #[.bool n1, .slice a1 q1 c1, .bool n2, .slice a2 q2 c2] ∧ BigV w2 (.agg #[.bool n1, .slice a1 q1 c1]) z ∧ BigV w2 (.agg #[.bool n2, .slice a2 q2 c2]) z) ::
        (fun _ _ _ => True) ::
        (fun v _ w2 => BigV w2 v 1 ∧ True) ::
        (fun v _ w2 => BigV w2 v (za * 1) ∧ True) ::
        (fun _ _ _ => True) ::
        (fun v _ w2 => ∃ (n1 : Bool) (a1 : Option Addr) (q1 c1 : Nat) (n2 : Bool) (a2 : Option Addr) (q2 c2 : Nat) (z : Int), v = .agg #[.bool n1, .slice a1 q1 c1, .bool n2, .slice a2 q2 c2] ∧ BigV w2 (.agg #[.bool n1, .slice a1 q1 c1]) z ∧ BigV w2 (.agg #[.bool n2, .slice a2 q2 c2]) z) ::
        (fun v _ w2 => ∃ p : Nat, v = .slice (some ⟨p, 0, none⟩) 9 9 ∧ Pairs w2 p) ::
        (fun v _ w2 => ∃ p : Nat, v = .slice (some ⟨p, 0, none⟩) 9 9 ∧ Pairs w2 p) ::
        []) (some 28 :: some 29 :: some 30 :: some 31 :: some 32 :: some 33 :: some 34 :: some 35 :: some 36 :: some 37 :: some 38 :: some 39 :: some 40 :: some 41 :: some 42 :: some 43 :: some 44 :: some 45 :: some 46 :: some 47 :: some 48 :: some 49 :: some 50 :: some 51 :: some 52 :: some 53 :: some 54 :: some 55 :: some 56 :: some 57 :: some 58 :: some 59 :: some 60 :: some 61 :: some 62 :: some 63 :: some 64 :: some 65 :: some 66 :: some 67 :: some 68 :: some 69 :: some 70 :: some 71 :: some 72 :: some 73 :: some 74 :: some 75 :: some 76 :: some 77 :: some 78 :: some 79 :: some 80 :: some 81 :: some 82 :: some 83 :: some 84 :: some 85 :: some 86 :: some 87 :: some 88 :: some 89 :: some 90 :: some 91 :: some 10 :: []) ([] :: [] :: [] :: [] :: [3] :: [] :: [] :: [] :: [] :: [] :: [] :: [] :: [11] :: [7, 12] :: [] :: [] :: [] :: [] :: [17] :: [] :: [] :: [] :: [] :: [] :: [] :: [] :: [25] :: [21, 26] :: [] :: [] :: [] :: [] :: [] :: [] :: [] :: [] :: [] :: [33, 36] :: [30, 37] :: [] :: [] :: [] :: [] :: [41] :: [] :: [] :: [] :: [] :: [46] :: [] :: [] :: [] :: [] :: [52] :: [] :: [] :: [] :: [53, 56] :: [] :: [] :: [59] :: [] :: [60] :: [4, 13, 18, 27, 38, 43, 48, 57, 62] :: [63] :: []) (by kernel_rfl) (fun w3 hy => ?_) ?steps7 ?fin7
    · exact ⟨cell_ext (Ext.trans (Ext.drew (Ext.refl _)) hy) dc0, cell_ext (Ext.trans (Ext.drew (Ext.refl _)) hy) dc1, cell_ext (Ext.trans (Ext.drew (Ext.refl _)) hy) dc2, cell_ext (Ext.trans (Ext.drew (Ext.refl _)) hy) dc3, cell_ext (Ext.trans (Ext.drew (Ext.refl _)) hy) dc4, cell_ext (Ext.trans (Ext.drew (Ext.refl _)) hy) dc5, cell_ext (Ext.trans (Ext.drew (Ext.refl _)) hy) dc6, cell_ext (Ext.trans (Ext.drew (Ext.refl _)) hy) dc7, cell_ext (Ext.trans (Ext.drew (Ext.refl _)) hy) dc8, cell_ext (Ext.trans (Ext.drew (Ext.refl _)) hy) dc9⟩
    case steps7 =>
      refine StepsF.skip ?_
      refine StepsF.skip ?_
      refine StepsF.skip ?_
      refine StepsF.take ?_ ?_
      rotate_left
      refine StepsF.take ?_ ?_
      rotate_left
      refine StepsF.skip ?_
      refine StepsF.skip ?_
      refine StepsF.take ?_ ?_
      rotate_left
      refine StepsF.skip ?_
      refine StepsF.skip ?_
      refine StepsF.skip ?_
      refine StepsF.take ?_ ?_
      rotate_left
      refine StepsF.take ?_ ?_
      rotate_left
      refine StepsF.take ?_ ?_
      rotate_left
      refine StepsF.skip ?_
      refine StepsF.skip ?_
      refine StepsF.skip ?_
      refine StepsF.take ?_ ?_
      rotate_left
      refine StepsF.take ?_ ?_
      rotate_left
      refine StepsF.skip ?_
      refine StepsF.skip ?_
      refine StepsF.take ?_ ?_
      rotate_left
      refine StepsF.skip ?_
      refine StepsF.skip ?_
      refine StepsF.skip ?_
      refine StepsF.take ?_ ?_
      rotate_left
      refine StepsF.take ?_ ?_
      rotate_left
      refine StepsF.take ?_ ?_
      rotate_left
      refine StepsF.skip ?_
      refine StepsF.skip ?_
      refine StepsF.take ?_ ?_
      rotate_left
      refine StepsF.skip ?_
      refine StepsF.skip ?_
      refine StepsF.take ?_ ?_
      rotate_left
      refine StepsF.skip ?_
      refine StepsF.skip ?_
      refine StepsF.take ?_ ?_
      rotate_left
      refine StepsF.take ?_ ?_
      rotate_left
      refine StepsF.take ?_ ?_
      rotate_left
      refine StepsF.skip ?_
      refine StepsF.skip ?_
      refine StepsF.take ?_ ?_
      rotate_left
      refine StepsF.skip ?_
      refine StepsF.take ?_ ?_
      rotate_left
      refine StepsF.skip ?_
      refine StepsF.skip ?_
      refine StepsF.take ?_ ?_
      rotate_left
      refine StepsF.skip ?_
      refine StepsF.take ?_ ?_
      rotate_left
      refine StepsF.skip ?_
      refine StepsF.skip ?_
      refine StepsF.skip ?_
      refine StepsF.take ?_ ?_
      rotate_left
      refine StepsF.take ?_ ?_
      rotate_left
      refine StepsF.skip ?_
      refine StepsF.skip ?_
      refine StepsF.take ?_ ?_
      rotate_left
      refine StepsF.take ?_ ?_
      rotate_left
      refine StepsF.skip ?_
      refine StepsF.take ?_ ?_
      rotate_left
      refine StepsF.take ?_ ?_
      rotate_left
      refine StepsF.skip ?_
      refine StepsF.take ?_ ?_
      rotate_left
      refine StepsF.take ?_ ?_
      rotate_left
      refine StepsF.take ?_ ?_
      rotate_left
      exact StepsF.nil
      · (intro V B A W hE hd; replace hE := Ext.trans (Ext.drew (Ext.refl _)) hE; intro K hK; simp only [putL, List.getD_cons_zero, List.getD_cons_succ, Act.put, List.setIfInBounds_toArray, List.set_cons_zero, List.set_cons_succ] at hK ⊢; go_simp; (with_reducible refine (calc_add pc _ (KC.out.ext hE) (Vb.out.ext hE) (Va.out.ext hE) Lb.out La.out L1.out).mono ?_); rintro e w2 ⟨v, rfl, hv, hy⟩; exact hK.out _ _ ⟨hv.val, trivial⟩ hy)
      · (intro V B A W hE hd; replace hE := Ext.trans (Ext.drew (Ext.refl _)) hE; obtain ⟨f3, -⟩ := hd; have r3 := f3.rel; simp only [List.getD_cons_zero, List.getD_cons_succ] at r3; obtain ⟨b3, -⟩ := r3; replace b3 := BigV.ext b3 f3.e2; obtain ⟨n3, a3, q3, c3, e3⟩ := b3.form4; intro K hK; simp only [putL, List.getD_cons_zero, List.getD_cons_succ, Act.put, List.setIfInBounds_toArray, List.set_cons_zero, List.set_cons_succ, e3] at hK ⊢; go_simp; exact hK.out _ _ ⟨_, _, _, _, _, _, _, _, _, rfl, (VS.out.ext hE), by rw [← E0.out]; exact (by rw [← e3]; exact b3)⟩ (Ext.refl _))
      · (intro V B A W hE hd; replace hE := Ext.trans (Ext.drew (Ext.refl _)) hE; intro K hK; simp only [putL, List.getD_cons_zero, List.getD_cons_succ, Act.put, List.setIfInBounds_toArray, List.set_cons_zero, List.set_cons_succ] at hK ⊢; go_simp; (with_reducible refine (calc_add pc _ (KC.out.ext hE) (VS.out.ext hE) (Vd.out.ext hE) LS.out Ld.out L2.out).mono ?_); rintro e w2 ⟨v, rfl, hv, hy⟩; exact hK.out _ _ ⟨hv.val, trivial⟩ hy)
      · (intro V B A W hE hd; replace hE := Ext.trans (Ext.drew (Ext.refl _)) hE; intro K hK; simp only [putL, List.getD_cons_zero, List.getD_cons_succ, Act.put, List.setIfInBounds_toArray, List.set_cons_zero, List.set_cons_succ] at hK ⊢; go_simp; (with_reducible refine (calc_add pc _ (KC.out.ext hE) (Vb.out.ext hE) (Vd.out.ext hE) Lb.out Ld.out L3.out).mono ?_); rintro e w2 ⟨v, rfl, hv, hy⟩; exact hK.out _ _ ⟨hv.val, trivial⟩ hy)
      · (intro V B A W hE hd; replace hE := Ext.trans (Ext.drew (Ext.refl _)) hE; obtain ⟨f11, -⟩ := hd; have r11 := f11.rel; simp only [List.getD_cons_zero, List.getD_cons_succ] at r11; obtain ⟨b11, -⟩ := r11; intro K hK; simp only [putL, List.getD_cons_zero, List.getD_cons_succ, Act.put, List.setIfInBounds_toArray, List.set_cons_zero, List.set_cons_succ] at hK ⊢; go_simp; (with_reducible refine (calc_add pc _ (KC.out.ext hE) (Va.out.ext hE) (BigV.ext b11 f11.e2) La.out L3.out L4.out).mono ?_); rintro e w2 ⟨v, rfl, hv, hy⟩; exact hK.out _ _ ⟨hv.val, trivial⟩ hy)
      · (intro V B A W hE hd; replace hE := Ext.trans (Ext.drew (Ext.refl _)) hE; obtain ⟨f7, f12, -⟩ := hd; have r7 := f7.rel; simp only [List.getD_cons_zero, List.getD_cons_succ] at r7; obtain ⟨b7, -⟩ := r7; replace b7 := BigV.ext b7 f7.e2; obtain ⟨n7, a7, q7, c7, e7⟩ := b7.form4; have r12 := f12.rel; simp only [List.getD_cons_zero, List.getD_cons_succ] at r12; obtain ⟨b12, -⟩ := r12; replace b12 := BigV.ext b12 f12.e2; obtain ⟨n12, a12, q12, c12, e12⟩ := b12.form4; intro K hK; simp only [putL, List.getD_cons_zero, List.getD_cons_succ, Act.put, List.setIfInBounds_toArray, List.set_cons_zero, List.set_cons_succ, e7, e12] at hK ⊢; go_simp; exact hK.out _ _ ⟨_, _, _, _, _, _, _, _, _, rfl, (by rw [← e7]; exact b7), by rw [← E1.out]; exact (by rw [← e12]; exact b12)⟩ (Ext.refl _))
      · (intro V B A W hE hd; replace hE := Ext.trans (Ext.drew (Ext.refl _)) hE; intro K hK; simp only [putL, List.getD_cons_zero, List.getD_cons_succ, Act.put, List.setIfInBounds_toArray, List.set_cons_zero, List.set_cons_succ] at hK ⊢; go_simp; (with_reducible refine (calc_mul pc _ (KC.out.ext hE) (Vb.out.ext hE) (Va.out.ext hE) Lb.out La.out L5.out).mono ?_); rintro e w2 ⟨v, rfl, hv, hy⟩; exact hK.out _ _ ⟨hv.val, trivial⟩ hy)
      · (intro V B A W hE hd; replace hE := Ext.trans (Ext.drew (Ext.refl _)) hE; obtain ⟨f17, -⟩ := hd; have r17 := f17.rel; simp only [List.getD_cons_zero, List.getD_cons_succ] at r17; obtain ⟨b17, -⟩ := r17; replace b17 := BigV.ext b17 f17.e2; obtain ⟨n17, a17, q17, c17, e17⟩ := b17.form4; intro K hK; simp only [putL, List.getD_cons_zero, List.getD_cons_succ, Act.put, List.setIfInBounds_toArray, List.set_cons_zero, List.set_cons_succ, e17] at hK ⊢; go_simp; exact hK.out _ _ ⟨_, _, _, _, _, _, _, _, _, rfl, (VP.out.ext hE), by rw [← E2.out]; exact (by rw [← e17]; exact b17)⟩ (Ext.refl _))
      · (intro V B A W hE hd; replace hE := Ext.trans (Ext.drew (Ext.refl _)) hE; intro K hK; simp only [putL, List.getD_cons_zero, List.getD_cons_succ, Act.put, List.setIfInBounds_toArray, List.set_cons_zero, List.set_cons_succ] at hK ⊢; go_simp; (with_reducible refine (calc_mul pc _ (KC.out.ext hE) (VP.out.ext hE) (Vd.out.ext hE) LP.out Ld.out L6.out).mono ?_); rintro e w2 ⟨v, rfl, hv, hy⟩; exact hK.out _ _ ⟨hv.val, trivial⟩ hy)
      · (intro V B A W hE hd; replace hE := Ext.trans (Ext.drew (Ext.refl _)) hE; intro K hK; simp only [putL, List.getD_cons_zero, List.getD_cons_succ, Act.put, List.setIfInBounds_toArray, List.set_cons_zero, List.set_cons_succ] at hK ⊢; go_simp; (with_reducible refine (calc_mul pc _ (KC.out.ext hE) (Vb.out.ext hE) (Vd.out.ext hE) Lb.out Ld.out L7.out).mono ?_); rintro e w2 ⟨v, rfl, hv, hy⟩; exact hK.out _ _ ⟨hv.val, trivial⟩ hy)
      · (intro V B A W hE hd; replace hE := Ext.trans (Ext.drew (Ext.refl _)) hE; obtain ⟨f25, -⟩ := hd; have r25 := f25.rel; simp only [List.getD_cons_zero, List.getD_cons_succ] at r25; obtain ⟨b25, -⟩ := r25; intro K hK; simp only [putL, List.getD_cons_zero, List.getD_cons_succ, Act.put, List.setIfInBounds_toArray, List.set_cons_zero, List.set_cons_succ] at hK ⊢; go_simp; (with_reducible refine (calc_mul pc _ (KC.out.ext hE) (Va.out.ext hE) (BigV.ext b25 f25.e2) La.out L7.out L8.out).mono ?_); rintro e w2 ⟨v, rfl, hv, hy⟩; exact hK.out _ _ ⟨hv.val, trivial⟩ hy)
      · (intro V B A W hE hd; replace hE := Ext.trans (Ext.drew (Ext.refl _)) hE; obtain ⟨f21, f26, -⟩ := hd; have r21 := f21.rel; simp only [List.getD_cons_zero, List.getD_cons_succ] at r21; obtain ⟨b21, -⟩ := r21; replace b21 := BigV.ext b21 f21.e2; obtain ⟨n21, a21, q21, c21, e21⟩ := b21.form4; have r26 := f26.rel; simp only [List.getD_cons_zero, List.getD_cons_succ] at r26; obtain ⟨b26, -⟩ := r26; replace b26 := BigV.ext b26 f26.e2; obtain ⟨n26, a26, q26, c26, e26⟩ := b26.form4; intro K hK; simp only [putL, List.getD_cons_zero, List.getD_cons_succ, Act.put, List.setIfInBounds_toArray, List.set_cons_zero, List.set_cons_succ, e21, e26] at hK ⊢; go_simp; exact hK.out _ _ ⟨_, _, _, _, _, _, _, _, _, rfl, (by rw [← e21]; exact b21), by rw [← E3.out]; exact (by rw [← e26]; exact b26)⟩ (Ext.refl _))
      · (intro V B A W hE hd; replace hE := Ext.trans (Ext.drew (Ext.refl _)) hE; intro K hK; simp only [putL, List.getD_cons_zero, List.getD_cons_succ, Act.put, List.setIfInBounds_toArray, List.set_cons_zero, List.set_cons_succ] at hK ⊢; go_simp; (with_reducible refine (calc_mul pc _ (KC.out.ext hE) (VS.out.ext hE) (Vd.out.ext hE) LS.out Ld.out L9.out).mono ?_); rintro e w2 ⟨v, rfl, hv, hy⟩; exact hK.out _ _ ⟨hv.val, trivial⟩ hy)
      · (intro V B A W hE hd; replace hE := Ext.trans (Ext.drew (Ext.refl _)) hE; intro K hK; simp only [putL, List.getD_cons_zero, List.getD_cons_succ, Act.put, List.setIfInBounds_toArray, List.set_cons_zero, List.set_cons_succ] at hK ⊢; go_simp; (with_reducible refine (calc_mul pc _ (KC.out.ext hE) (Va.out.ext hE) (Vd.out.ext hE) La.out Ld.out L10.out).mono ?_); rintro e w2 ⟨v, rfl, hv, hy⟩; exact hK.out _ _ ⟨hv.val, trivial⟩ hy)
      · (intro V B A W hE hd; replace hE := Ext.trans (Ext.drew (Ext.refl _)) hE; intro K hK; simp only [putL, List.getD_cons_zero, List.getD_cons_succ, Act.put, List.setIfInBounds_toArray, List.set_cons_zero, List.set_cons_succ] at hK ⊢; go_simp; (with_reducible refine (calc_mul pc _ (KC.out.ext hE) (Vb.out.ext hE) (Vd.out.ext hE) Lb.out Ld.out L11.out).mono ?_); rintro e w2 ⟨v, rfl, hv, hy⟩; exact hK.out _ _ ⟨hv.val, trivial⟩ hy)
      · (intro V B A W hE hd; replace hE := Ext.trans (Ext.drew (Ext.refl _)) hE; obtain ⟨f33, f36, -⟩ := hd; have r33 := f33.rel; simp only [List.getD_cons_zero, List.getD_cons_succ] at r33; obtain ⟨b33, -⟩ := r33; have r36 := f36.rel; simp only [List.getD_cons_zero, List.getD_cons_succ] at r36; obtain ⟨b36, -⟩ := r36; intro K hK; simp only [putL, List.getD_cons_zero, List.getD_cons_succ, Act.put, List.setIfInBounds_toArray, List.set_cons_zero, List.set_cons_succ] at hK ⊢; go_simp; (with_reducible refine (calc_add pc _ (KC.out.ext hE) (BigV.ext b33 f33.e2) (BigV.ext b36 f36.e2) L10.out L11.out L12.out).mono ?_); rintro e w2 ⟨v, rfl, hv, hy⟩; exact hK.out _ _ ⟨hv.val, trivial⟩ hy)
      · (intro V B A W hE hd; replace hE := Ext.trans (Ext.drew (Ext.refl _)) hE; obtain ⟨f30, f37, -⟩ := hd; have r30 := f30.rel; simp only [List.getD_cons_zero, List.getD_cons_succ] at r30; obtain ⟨b30, -⟩ := r30; replace b30 := BigV.ext b30 f30.e2; obtain ⟨n30, a30, q30, c30, e30⟩ := b30.form4; have r37 := f37.rel; simp only [List.getD_cons_zero, List.getD_cons_succ] at r37; obtain ⟨b37, -⟩ := r37; replace b37 := BigV.ext b37 f37.e2; obtain ⟨n37, a37, q37, c37, e37⟩ := b37.form4; intro K hK; simp only [putL, List.getD_cons_zero, List.getD_cons_succ, Act.put, List.setIfInBounds_toArray, List.set_cons_zero, List.set_cons_succ, e30, e37] at hK ⊢; go_simp; exact hK.out _ _ ⟨_, _, _, _, _, _, _, _, _, rfl, (by rw [← e30]; exact b30), by rw [← E4.out]; exact (by rw [← e37]; exact b37)⟩ (Ext.refl _))
      · (intro V B A W hE hd; replace hE := Ext.trans (Ext.drew (Ext.refl _)) hE; intro K hK; simp only [putL, List.getD_cons_zero, List.getD_cons_succ, Act.put, List.setIfInBounds_toArray, List.set_cons_zero, List.set_cons_succ] at hK ⊢; go_simp; (with_reducible refine (calc_sub pc _ (KC.out.ext hE) (VS.out.ext hE) (Vb.out.ext hE) LS.out Lb.out L13.out).mono ?_); rintro e w2 ⟨v, rfl, hv, hy⟩; exact hK.out _ _ ⟨hv.val, trivial⟩ hy)
      · (intro V B A W hE hd; replace hE := Ext.trans (Ext.drew (Ext.refl _)) hE; obtain ⟨f41, -⟩ := hd; have r41 := f41.rel; simp only [List.getD_cons_zero, List.getD_cons_succ] at r41; obtain ⟨b41, -⟩ := r41; replace b41 := BigV.ext b41 f41.e2; obtain ⟨n41, a41, q41, c41, e41⟩ := b41.form4; intro K hK; simp only [putL, List.getD_cons_zero, List.getD_cons_succ, Act.put, List.setIfInBounds_toArray, List.set_cons_zero, List.set_cons_succ, e41] at hK ⊢; go_simp; exact hK.out _ _ ⟨_, _, _, _, _, _, _, _, _, rfl, (by rw [← e41]; exact b41), by rw [← E5.out]; exact (Va.out.ext hE)⟩ (Ext.refl _))
      · (intro V B A W hE hd; replace hE := Ext.trans (Ext.drew (Ext.refl _)) hE; intro K hK; simp only [putL, List.getD_cons_zero, List.getD_cons_succ, Act.put, List.setIfInBounds_toArray, List.set_cons_zero, List.set_cons_succ] at hK ⊢; go_simp; (with_reducible refine (calc_sub pc _ (KC.out.ext hE) (Va.out.ext hE) (Va.out.ext hE) La.out La.out L14.out).mono ?_); rintro e w2 ⟨v, rfl, hv, hy⟩; exact hK.out _ _ ⟨hv.val, trivial⟩ hy)
      · (intro V B A W hE hd; replace hE := Ext.trans (Ext.drew (Ext.refl _)) hE; obtain ⟨f46, -⟩ := hd; have r46 := f46.rel; simp only [List.getD_cons_zero, List.getD_cons_succ] at r46; obtain ⟨b46, -⟩ := r46; replace b46 := BigV.ext b46 f46.e2; obtain ⟨n46, a46, q46, c46, e46⟩ := b46.form4; intro K hK; simp only [putL, List.getD_cons_zero, List.getD_cons_succ, Act.put, List.setIfInBounds_toArray, List.set_cons_zero, List.set_cons_succ, e46] at hK ⊢; go_simp; exact hK.out _ _ ⟨_, _, _, _, _, _, _, _, _, rfl, (by rw [← e46]; exact b46), by rw [← E6.out]; exact (BigV.zero _)⟩ (Ext.refl _))
      · (intro V B A W hE hd; replace hE := Ext.trans (Ext.drew (Ext.refl _)) hE; intro K hK; simp only [putL, List.getD_cons_zero, List.getD_cons_succ, Act.put, List.setIfInBounds_toArray, List.set_cons_zero, List.set_cons_succ] at hK ⊢; go_simp; (with_reducible refine (calc_sub pc _ (KC.out.ext hE) (BigV.zero _) (Vb.out.ext hE) L0.out Lb.out L15.out).mono ?_); rintro e w2 ⟨v, rfl, hv, hy⟩; exact hK.out _ _ ⟨hv.val, trivial⟩ hy)
      · (intro V B A W hE hd; replace hE := Ext.trans (Ext.drew (Ext.refl _)) hE; obtain ⟨f52, -⟩ := hd; have r52 := f52.rel; simp only [List.getD_cons_zero, List.getD_cons_succ] at r52; obtain ⟨b52, -⟩ := r52; intro K hK; simp only [putL, List.getD_cons_zero, List.getD_cons_succ, Act.put, List.setIfInBounds_toArray, List.set_cons_zero, List.set_cons_succ] at hK ⊢; go_simp; (with_reducible refine (calc_add pc _ (KC.out.ext hE) (Va.out.ext hE) (BigV.ext b52 f52.e2) La.out L15.out L16.out).mono ?_); rintro e w2 ⟨v, rfl, hv, hy⟩; exact hK.out _ _ ⟨hv.val, trivial⟩ hy)
      · (intro V B A W hE hd; replace hE := Ext.trans (Ext.drew (Ext.refl _)) hE; intro K hK; simp only [putL, List.getD_cons_zero, List.getD_cons_succ, Act.put, List.setIfInBounds_toArray, List.set_cons_zero, List.set_cons_succ] at hK ⊢; go_simp; (with_reducible refine (calc_sub pc _ (KC.out.ext hE) (Va.out.ext hE) (Vb.out.ext hE) La.out Lb.out L17.out).mono ?_); rintro e w2 ⟨v, rfl, hv, hy⟩; exact hK.out _ _ ⟨hv.val, trivial⟩ hy)
      · (intro V B A W hE hd; replace hE := Ext.trans (Ext.drew (Ext.refl _)) hE; obtain ⟨f53, f56, -⟩ := hd; have r53 := f53.rel; simp only [List.getD_cons_zero, List.getD_cons_succ] at r53; obtain ⟨b53, -⟩ := r53; replace b53 := BigV.ext b53 f53.e2; obtain ⟨n53, a53, q53, c53, e53⟩ := b53.form4; have r56 := f56.rel; simp only [List.getD_cons_zero, List.getD_cons_succ] at r56; obtain ⟨b56, -⟩ := r56; replace b56 := BigV.ext b56 f56.e2; obtain ⟨n56, a56, q56, c56, e56⟩ := b56.form4; intro K hK; simp only [putL, List.getD_cons_zero, List.getD_cons_succ, Act.put, List.setIfInBounds_toArray, List.set_cons_zero, List.set_cons_succ, e53, e56] at hK ⊢; go_simp; exact hK.out _ _ ⟨_, _, _, _, _, _, _, _, _, rfl, (by rw [← e53]; exact b53), by rw [← E7.out]; exact (by rw [← e56]; exact b56)⟩ (Ext.refl _))
      · (intro V B A W hE hd; replace hE := Ext.trans (Ext.drew (Ext.refl _)) hE; intro K hK; simp only [putL, List.getD_cons_zero, List.getD_cons_succ, Act.put, List.setIfInBounds_toArray, List.set_cons_zero, List.set_cons_succ] at hK ⊢; go_simp; (with_reducible refine (nat_Make 1 _ (by omega)).mono ?_); rintro e w2 ⟨v, rfl, hv, hy⟩; exact hK.out _ _ ⟨hv.val, trivial⟩ hy)
      · (intro V B A W hE hd; replace hE := Ext.trans (Ext.drew (Ext.refl _)) hE; obtain ⟨f59, -⟩ := hd; have r59 := f59.rel; simp only [List.getD_cons_zero, List.getD_cons_succ] at r59; obtain ⟨b59, -⟩ := r59; intro K hK; simp only [putL, List.getD_cons_zero, List.getD_cons_succ, Act.put, List.setIfInBounds_toArray, List.set_cons_zero, List.set_cons_succ] at hK ⊢; go_simp; (with_reducible refine (calc_mul pc _ (KC.out.ext hE) (Va.out.ext hE) (BigV.ext b59 f59.e2) La.out L18.out L19.out).mono ?_); rintro e w2 ⟨v, rfl, hv, hy⟩; exact hK.out _ _ ⟨hv.val, trivial⟩ hy)
      · (intro V B A W hE hd; replace hE := Ext.trans (Ext.drew (Ext.refl _)) hE; obtain ⟨f60, -⟩ := hd; have r60 := f60.rel; simp only [List.getD_cons_zero, List.getD_cons_succ] at r60; obtain ⟨b60, -⟩ := r60; replace b60 := BigV.ext b60 f60.e2; obtain ⟨n60, a60, q60, c60, e60⟩ := b60.form4; intro K hK; simp only [putL, List.getD_cons_zero, List.getD_cons_succ, Act.put, List.setIfInBounds_toArray, List.set_cons_zero, List.set_cons_succ, e60] at hK ⊢; go_simp; exact hK.out _ _ ⟨_, _, _, _, _, _, _, _, _, rfl, (by rw [← e60]; exact b60), by rw [← E8.out]; exact (Va.out.ext hE)⟩ (Ext.refl _))
      · (intro V B A W hE hd; replace hE := Ext.trans (Ext.drew (Ext.refl _)) hE; obtain ⟨f4, f13, f18, f27, f38, f43, f48, f57, f62, -⟩ := hd; have r4 := f4.rel; simp only [List.getD_cons_zero, List.getD_cons_succ] at r4; obtain ⟨n4, a4, q4, c4, m4, x4, r4, k4, z4, e4, g4, h4⟩ := r4; have r13 := f13.rel; simp only [List.getD_cons_zero, List.getD_cons_succ] at r13; obtain ⟨n13, a13, q13, c13, m13, x13, r13, k13, z13, e13, g13, h13⟩ := r13; have r18 := f18.rel; simp only [List.getD_cons_zero, List.getD_cons_succ] at r18; obtain ⟨n18, a18, q18, c18, m18, x18, r18, k18, z18, e18, g18, h18⟩ := r18; have r27 := f27.rel; simp only [List.getD_cons_zero, List.getD_cons_succ] at r27; obtain ⟨n27, a27, q27, c27, m27, x27, r27, k27, z27, e27, g27, h27⟩ := r27; have r38 := f38.rel; simp only [List.getD_cons_zero, List.getD_cons_succ] at r38; obtain ⟨n38, a38, q38, c38, m38, x38, r38, k38, z38, e38, g38, h38⟩ := r38; have r43 := f43.rel; simp only [List.getD_cons_zero, List.getD_cons_succ] at r43; obtain ⟨n43, a43, q43, c43, m43, x43, r43, k43, z43, e43, g43, h43⟩ := r43; have r48 := f48.rel; simp only [List.getD_cons_zero, List.getD_cons_succ] at r48; obtain ⟨n48, a48, q48, c48, m48, x48, r48, k48, z48, e48, g48, h48⟩ := r48; have r57 := f57.rel; simp only [List.getD_cons_zero, List.getD_cons_succ] at r57; obtain ⟨n57, a57, q57, c57, m57, x57, r57, k57, z57, e57, g57, h57⟩ := r57; have r62 := f62.rel; simp only [List.getD_cons_zero, List.getD_cons_succ] at r62; obtain ⟨n62, a62, q62, c62, m62, x62, r62, k62, z62, e62, g62, h62⟩ := r62; intro K hK; simp only [putL, List.getD_cons_zero, List.getD_cons_succ, Act.put, List.setIfInBounds_toArray, List.set_cons_zero, List.set_cons_succ, e4, e13, e18, e27, e38, e43, e48, e57, e62] at hK ⊢; go_simp; have hy := Ext.alloc W (.cells #[.bool n4, .slice a4 q4 c4, .bool m4, .slice x4 r4 k4, .bool n13, .slice a13 q13 c13, .bool m13, .slice x13 r13 k13, .bool n18, .slice a18 q18 c18, .bool m18, .slice x18 r18 k18, .bool n27, .slice a27 q27 c27, .bool m27, .slice x27 r27 k27, .bool n38, .slice a38 q38 c38, .bool m38, .slice x38 r38 k38, .bool n43, .slice a43 q43 c43, .bool m43, .slice x43 r43 k43, .bool n48, .slice a48 q48 c48, .bool m48, .slice x48 r48 k48, .bool n57, .slice a57 q57 c57, .bool m57, .slice x57 r57 k57, .bool n62, .slice a62 q62 c62, .bool m62, .slice x62 r62 k62] 56); have hB := Blk.new0 W #[.bool n4, .slice a4 q4 c4, .bool m4, .slice x4 r4 k4, .bool n13, .slice a13 q13 c13, .bool m13, .slice x13 r13 k13, .bool n18, .slice a18 q18 c18, .bool m18, .slice x18 r18 k18, .bool n27, .slice a27 q27 c27, .bool m27, .slice x27 r27 k27, .bool n38, .slice a38 q38 c38, .bool m38, .slice x38 r38 k38, .bool n43, .slice a43 q43 c43, .bool m43, .slice x43 r43 k43, .bool n48, .slice a48 q48 c48, .bool m48, .slice x48 r48 k48, .bool n57, .slice a57 q57 c57, .bool m57, .slice x57 r57 k57, .bool n62, .slice a62 q62 c62, .bool m62, .slice x62 r62 k62] 56; exact hK.out _ _ ⟨_, rfl, fun i hi => by match i, hi with | 0, _ => exact ⟨_, _, _, _, _, _, _, _, _, hB.cell rfl, hB.cell rfl, hB.cell rfl, hB.cell rfl, g4.ext (f4.e2.trans hy), h4.ext (f4.e2.trans hy)⟩ | 1, _ => exact ⟨_, _, _, _, _, _, _, _, _, hB.cell rfl, hB.cell rfl, hB.cell rfl, hB.cell rfl, g13.ext (f13.e2.trans hy), h13.ext (f13.e2.trans hy)⟩ | 2, _ => exact ⟨_, _, _, _, _, _, _, _, _, hB.cell rfl, hB.cell rfl, hB.cell rfl, hB.cell rfl, g18.ext (f18.e2.trans hy), h18.ext (f18.e2.trans hy)⟩ | 3, _ => exact ⟨_, _, _, _, _, _, _, _, _, hB.cell rfl, hB.cell rfl, hB.cell rfl, hB.cell rfl, g27.ext (f27.e2.trans hy), h27.ext (f27.e2.trans hy)⟩ | 4, _ => exact ⟨_, _, _, _, _, _, _, _, _, hB.cell rfl, hB.cell rfl, hB.cell rfl, hB.cell rfl, g38.ext (f38.e2.trans hy), h38.ext (f38.e2.trans hy)⟩ | 5, _ => exact ⟨_, _, _, _, _, _, _, _, _, hB.cell rfl, hB.cell rfl, hB.cell rfl, hB.cell rfl, g43.ext (f43.e2.trans hy), h43.ext (f43.e2.trans hy)⟩ | 6, _ => exact ⟨_, _, _, _, _, _, _, _, _, hB.cell rfl, hB.cell rfl, hB.cell rfl, hB.cell rfl, g48.ext (f48.e2.trans hy), h48.ext (f48.e2.trans hy)⟩ | 7, _ => exact ⟨_, _, _, _, _, _, _, _, _, hB.cell rfl, hB.cell rfl, hB.cell rfl, hB.cell rfl, g57.ext (f57.e2.trans hy), h57.ext (f57.e2.trans hy)⟩ | 8, _ => exact ⟨_, _, _, _, _, _, _, _, _, hB.cell rfl, hB.cell rfl, hB.cell rfl, hB.cell rfl, g62.ext (f62.e2.trans hy), h62.ext (f62.e2.trans hy)⟩⟩ hy)
      · (intro V B A W hE hd; replace hE := Ext.trans (Ext.drew (Ext.refl _)) hE; obtain ⟨f63, -⟩ := hd; have r63 := f63.rel; simp only [List.getD_cons_zero, List.getD_cons_succ] at r63; obtain ⟨p63, e63, g63⟩ := r63; intro K hK; simp only [putL, List.getD_cons_zero, List.getD_cons_succ, Act.put, List.setIfInBounds_toArray, List.set_cons_zero, List.set_cons_succ, e63] at hK ⊢; go_simp; exact hK.out _ _ ⟨p63, rfl, g63.ext f63.e2⟩ (Ext.refl _))
    case fin7 =>
      intro V B A w3 hd hp hx3
      replace hx3 := Ext.trans (Ext.drew (Ext.refl _)) hx3
      obtain ⟨f3, f4, f7, f11, f12, f13, f17, f18, f21, f25, f26, f27, f30, f33, f36, f37, f38, f41, f43, f46, f48, f52, f53, f56, f57, f59, f60, f62, f63, f64, -⟩ := hd
      have r64 := f64.rel
      simp only [List.getD_cons_zero, List.getD_cons_succ] at r64
      obtain ⟨p64, e64, g64⟩ := r64
      simp only [putL, List.getD_cons_zero, List.getD_cons_succ, Act.put, List.setIfInBounds_toArray, List.set_cons_zero, List.set_cons_succ, e64]
      go_wp2_with fail
      go_meet
      exact ⟨p64, rfl, g64.ext f64.e2, hx3⟩
  case rest =>
  obtain ⟨pr, rfl, hPr, hy⟩ := hcut
  clear KS KP VS VP DS LS DP LP D1 L1 D2 L2 D3 L3 D4 L4 D5 L5 D6 L6 D7 L7 D8 L8 D9 L9 D10 L10 D11 L11 D12 L12 D13 L13 D14 L14 D15 L15 D16 L16 D17 L17 D18 L18 D19 L19 E0 E1 E2 E3 E4 E5 E6 E7 E8
  replace hx := hx.trans hy
  replace Ka := Lib.hid (Ka.out.ext hy)
  replace Kb := Lib.hid (Kb.out.ext hy)
  replace Kd := Lib.hid (Kd.out.ext hy)
  replace Va := Lib.hid (Va.out.ext hy)
  replace Vb := Lib.hid (Vb.out.ext hy)
  replace Vd := Lib.hid (Vd.out.ext hy)
  replace KC := Lib.hid (KC.out.ext hy)
  have HPr := Lib.hid hPr
  clear hy hPr
  have e0 : (9 : Nat) = 9 := rfl
  go_wp2_with fail
  go_loopw [94] (fun i wr => ∃ k : Nat, k ≤ 9 ∧ i = .int .i64 k ∧ Ext wc wr) (fun i _ => 9 - (intOf i).toNat)
  case atStart => exact ⟨0, Nat.zero_le _, rfl, Ext.refl _⟩
  case round =>
    obtain ⟨k, hk, rfl, hr⟩ := hrel
    by_cases hk9 : k < 9
    · obtain ⟨n1, a1, q1, c1, n2, a2, q2, c2, z, h1, h2, h3, h4, h5, h6⟩ := (HPr.out.ext hr) k hk9
      have t1 : decide ((k : Int) < 9) = true := by simp only [decide_eq_true_eq]; omega
      have t2 : decide (k < 9) = true := by simpa using hk9
      have g1 : (0 : Int) ≤ (k : Int) := by omega
      have g2 : (k : Int) < 9 := by omega
      have hs := Ext.alloc wr (.cells #[.bool n1, .slice a1 q1 c1, .bool n2, .slice a2 q2 c2] 56)
      have HSm := Lib.hid (sameT (h5.ext hs) (h6.ext hs) rfl)
      have HS := Lib.hid hs
      have HR := Lib.hid hr
      clear h5 h6 hs hr hk9
      go_wp2_with fail
      refine HSm.out.mono ?_
      rintro e y1 ⟨rfl, hy⟩
      go_wp2_with fail
      go_roundw
      case rel => exact ⟨k + 1, by omega, by go_num, (HR.out.trans HS.out).trans hy⟩
      case measure => simp [intOf]; omega
    · obtain rfl : k = 9 := by omega
      replace hx := hx.trans hr
      replace Ka := Lib.hid (Ka.out.ext hr)
      replace Kb := Lib.hid (Kb.out.ext hr)
      replace Kd := Lib.hid (Kd.out.ext hr)
      replace Va := Lib.hid (Va.out.ext hr)
      replace Vb := Lib.hid (Vb.out.ext hr)
      replace Vd := Lib.hid (Vd.out.ext hr)
      replace KC := Lib.hid (KC.out.ext hr)
      replace HPr := Lib.hid (HPr.out.ext hr)
      clear hr hk hk9
      skip
      obtain ⟨o, ho⟩ : ∃ o, cmpI za zb = o := ⟨_, rfl⟩
      have hob := cmpI_bd za zb
      rw [ho] at hob
      have HO := Lib.hid ho
      have HO1 := Lib.hid (show cmpI zb za = -o from by rw [cmpI_neg, ho])
      have HO2 := Lib.hid (show cmpI (za + zd) (zb + zd) = o from by rw [cmpI_add, ho])
      have HO3 := Lib.hid (show cmpI (za - zb) 0 = o from by rw [cmpI_sub, ho])
      obtain ⟨eqb, heq⟩ : ∃ b, decide (za = zb) = b := ⟨_, rfl⟩
      have HEQ := Lib.hid heq
      have o0 : (o == 0) = eqb := by rw [← ho, cmpI_zero, heq]
      have HOZ := Lib.hid o0
      clear ho heq o0
      go_upto_region 14 with fail
      have ca0 := Ka.out.cell (i := 0) (v := .bool na) rfl
      have ca1 := Ka.out.cell (i := 1) (v := .slice aa qa ca) rfl
      have cb0 := Kb.out.cell (i := 0) (v := .bool nb) rfl
      have cb1 := Kb.out.cell (i := 1) (v := .slice ab qb cb) rfl
      go_wp2_with fail
      with_reducible refine (calc_cmp pc _ KC.out Va.out Vb.out La.out Lb.out).mono ?_
      rintro e x8 ⟨rfl, hy⟩
      rw [HO.out]
      replace hx := hx.trans hy
      replace Ka := Lib.hid (Ka.out.ext hy)
      replace Kb := Lib.hid (Kb.out.ext hy)
      replace Kd := Lib.hid (Kd.out.ext hy)
      replace Va := Lib.hid (Va.out.ext hy)
      replace Vb := Lib.hid (Vb.out.ext hy)
      replace Vd := Lib.hid (Vd.out.ext hy)
      replace KC := Lib.hid (KC.out.ext hy)
      replace HPr := Lib.hid (HPr.out.ext hy)
      clear hy
      clear ca0 ca1 cb0 cb1
      go_upto_region 15 with fail
      have Ds1 : Hid ((za + zd).natAbs < 1073741824 ^ 13) := Lib.hid (add_lt (lt_mono Da.out (by omega)) (lt_mono (m := 12) Dd.out (by omega)))
      have Ls1 := Lib.hid (len_lt Ds1.out (by omega))
      have Ds2 : Hid ((zb + zd).natAbs < 1073741824 ^ 13) := Lib.hid (add_lt (lt_mono Db.out (by omega)) (lt_mono (m := 12) Dd.out (by omega)))
      have Ls2 := Lib.hid (len_lt Ds2.out (by omega))
      have Ds3 : Hid ((za - zb).natAbs < 1073741824 ^ 13) := Lib.hid (sub_lt (lt_mono Da.out (by omega)) (lt_mono (m := 12) Db.out (by omega)))
      have Ls3 := Lib.hid (len_lt Ds3.out (by omega))
      have o0 := HOZ.out
      have o1 : IntKind.i64.wrap (-(-o)) = o := by rw [Int.neg_neg]; exact IntWalk.i64_in _ (by omega)
      have o2 : - -o = o := Int.neg_neg o
      go_cut [141] (fun s141 wx => s141 = .bool false ∧ Ext x8 wx)
      case first =>
        have oo : (o != o) = false := by simp
        have o3 : IntKind.i64.wrap o = o := IntWalk.i64_in _ (by omega)
        have eqe : (eqb != eqb) = false := by simp
        have dc0 : x8.cell? ⟨w.heap.size, 0, none⟩ = some (.bool na) := Ka.out.cell (i := 0) rfl
        have dc1 : x8.cell? ⟨w.heap.size, 1, none⟩ = some (.slice aa qa ca) := Ka.out.cell (i := 1) rfl
        have dc2 : x8.cell? ⟨w.heap.size + 1, 0, none⟩ = some (.bool nb) := Kb.out.cell (i := 0) rfl
        have dc3 : x8.cell? ⟨w.heap.size + 1, 1, none⟩ = some (.slice ab qb cb) := Kb.out.cell (i := 1) rfl
        have dc4 : x8.cell? ⟨w.heap.size + 2, 0, none⟩ = some (.bool nd) := Kd.out.cell (i := 0) rfl
        have dc5 : x8.cell? ⟨w.heap.size + 2, 1, none⟩ = some (.slice ad qd cd) := Kd.out.cell (i := 1) rfl
        refine wp_region_begin (S := (fun w' => w'.cell? ⟨w.heap.size, 0, none⟩ = some (.bool na) ∧ w'.cell? ⟨w.heap.size, 1, none⟩ = some (.slice aa qa ca) ∧ w'.cell? ⟨w.heap.size + 1, 0, none⟩ = some (.bool nb) ∧ w'.cell? ⟨w.heap.size + 1, 1, none⟩ = some (.slice ab qb cb) ∧ w'.cell? ⟨w.heap.size + 2, 0, none⟩ = some (.bool nd) ∧ w'.cell? ⟨w.heap.size + 2, 1, none⟩ = some (.slice ad qd cd))) 34 (false :: false :: false :: false :: false :: false :: false :: false :: false :: false :: false :: false :: false :: false :: false :: false :: false :: false :: false :: false :: false :: false :: false :: false :: false :: false :: false :: false :: false :: false :: false :: false :: false :: false :: []) (by kernel_rfl) (by kernel_rfl) ?_ (fun hHeld => ?_)
        · exact ⟨dc0, dc1, dc2, dc3, dc4, dc5⟩
        refine wpAnyH_takeD (i := 0) (oi := _) (v := ?_) (some 108) rfl (by kernel_rfl) (by kernel_rfl) (by kernel_rfl) (by kernel_rfl) (fun _ _ _ h => h) (Or.inl ⟨by rfl, ?_⟩) (by assumption) ?_
        rotate_left
        · (intro w hSw; (try dsimp only at hSw); (try go_simp); (try with_reducible rfl))
        (try simp only [Act.put, List.getElem_toArray, List.getElem_cons_succ, List.getElem_cons_zero, List.setIfInBounds_toArray, List.set_cons_zero, List.set_cons_succ])
        refine wpAnyH_takeD (i := 1) (oi := _) (v := ?_) (some 109) rfl (by kernel_rfl) (by kernel_rfl) (by kernel_rfl) (by kernel_rfl) (fun _ _ _ h => h) (Or.inl ⟨by rfl, ?_⟩) (by assumption) ?_
        rotate_left
        · (intro w hSw; (try dsimp only at hSw); (try go_simp); (try with_reducible rfl))
        (try simp only [Act.put, List.getElem_toArray, List.getElem_cons_succ, List.getElem_cons_zero, List.setIfInBounds_toArray, List.set_cons_zero, List.set_cons_succ])
        refine wpAnyH_takeD (i := 2) (oi := _) (v := ?_) (some 110) rfl (by kernel_rfl) (by kernel_rfl) (by kernel_rfl) (by kernel_rfl) (fun _ _ _ h => h) (Or.inl ⟨by rfl, ?_⟩) (by assumption) ?_
        rotate_left
        · (intro w hSw; (try dsimp only at hSw); (try go_simp); (try with_reducible rfl))
        (try simp only [Act.put, List.getElem_toArray, List.getElem_cons_succ, List.getElem_cons_zero, List.setIfInBounds_toArray, List.set_cons_zero, List.set_cons_succ])
        refine wpAnyH_steps (3 :: 4 :: 5 :: 6 :: 7 :: 8 :: 9 :: 10 :: 11 :: 12 :: 13 :: 14 :: 15 :: 16 :: 17 :: 18 :: 19 :: 20 :: 21 :: 22 :: 23 :: 24 :: 25 :: 26 :: 27 :: 28 :: 29 :: 30 :: 31 :: 32 :: 33 :: []) ((fun _ _ _ => True) ::
            (fun _ _ _ => True) ::
            (fun _ _ _ => True) ::
            (fun v _ _ => v = .int .i64 (-o) ∧ True) ::
            (fun v _ _ => v = .int .i64 o ∧ True) ::
            (fun v _ _ => v = .bool false ∧ True) ::
            (fun v _ _ => v = .bool false ∧ True) ::
            (fun v _ _ => v = .int .i64 o ∧ True) ::
            (fun v _ _ => v = .bool eqb ∧ True) ::
            (fun v _ _ => v = .agg #[.bool na, .slice aa qa ca] ∧ True) ::
            (fun v _ _ => v = .agg #[.bool nb, .slice ab qb cb] ∧ True) ::
            (fun v _ _ => v = .bool eqb ∧ True) ::
            (fun v _ _ => v = .bool false ∧ True) ::
            (fun v _ _ => v = .bool false ∧ True) ::
            (fun v _ _ => v = .bool false ∧ True) ::
            (fun v _ _ => v = .agg #[.bool na, .slice aa qa ca] ∧ True) ::
            (fun v _ _ => v = .agg #[.bool nd, .slice ad qd cd] ∧ True) ::
            (fun v _ w2 => BigV w2 v (za + zd) ∧ True) ::
            (fun v _ _ => v = .agg #[.bool nb, .slice ab qb cb] ∧ True) ::
            (fun v _ _ => v = .agg #[.bool nd, .slice ad qd cd] ∧ True) ::
            (fun v _ w2 => BigV w2 v (zb + zd) ∧ True) ::
            (fun v _ _ => v = .int .i64 o ∧ True) ::
            (fun v _ _ => v = .int .i64 o ∧ True) ::
            (fun v _ _ => v = .bool false ∧ True) ::
            (fun v _ _ => v = .bool false ∧ True) ::
            (fun v _ _ => v = .bool false ∧ True) ::
            (fun v _ _ => v = .agg #[.bool na, .slice aa qa ca] ∧ True) ::
            (fun v _ _ => v = .agg #[.bool nb, .slice ab qb cb] ∧ True) ::
            (fun v _ w2 => BigV w2 v (za - zb) ∧ True) ::
            (fun v _ _ => v = .agg #[.bool false, .slice none 0 0] ∧ True) ::
            (fun v _ _ => v = .int .i64 o ∧ True) ::
            (fun v _ _ => v = .int .i64 o ∧ True) ::
            (fun v _ _ => v = .bool false ∧ True) ::
            (fun v _ _ => v = .bool false ∧ True) ::
            []) (some 108 :: some 109 :: some 110 :: some 111 :: some 112 :: some 113 :: some 114 :: some 115 :: some 116 :: some 117 :: some 118 :: some 119 :: some 120 :: some 121 :: some 122 :: some 123 :: some 124 :: some 125 :: some 126 :: some 127 :: some 128 :: some 129 :: some 130 :: some 131 :: some 132 :: some 133 :: some 134 :: some 135 :: some 136 :: some 137 :: some 138 :: some 139 :: some 140 :: some 141 :: []) ([] :: [] :: [] :: [] :: [3] :: [4] :: [5] :: [6] :: [6, 7] :: [6] :: [6] :: [6, 9, 10] :: [6, 8, 11] :: [6, 12] :: [13] :: [14] :: [14] :: [14, 15, 16] :: [14] :: [14] :: [14, 18, 19] :: [14, 17, 20] :: [14] :: [14, 21, 22] :: [14, 23] :: [24] :: [25] :: [25] :: [25, 26, 27] :: [25] :: [25, 28, 29] :: [25] :: [25, 30, 31] :: [25, 32] :: []) (by kernel_rfl) (fun w3 hy => ?_) ?steps15 ?fin15
        · exact ⟨cell_ext (Ext.trans (Ext.drew (Ext.refl _)) hy) dc0, cell_ext (Ext.trans (Ext.drew (Ext.refl _)) hy) dc1, cell_ext (Ext.trans (Ext.drew (Ext.refl _)) hy) dc2, cell_ext (Ext.trans (Ext.drew (Ext.refl _)) hy) dc3, cell_ext (Ext.trans (Ext.drew (Ext.refl _)) hy) dc4, cell_ext (Ext.trans (Ext.drew (Ext.refl _)) hy) dc5⟩
        case steps15 =>
          refine StepsF.skip ?_
          refine StepsF.skip ?_
          refine StepsF.skip ?_
          refine StepsF.take ?_ ?_
          rotate_left
          refine StepsF.take ?_ ?_
          rotate_left
          refine StepsF.take ?_ ?_
          rotate_left
          refine StepsF.take ?_ ?_
          rotate_left
          refine StepsF.take ?_ ?_
          rotate_left
          refine StepsF.take ?_ ?_
          rotate_left
          refine StepsF.take ?_ ?_
          rotate_left
          refine StepsF.take ?_ ?_
          rotate_left
          refine StepsF.take ?_ ?_
          rotate_left
          refine StepsF.take ?_ ?_
          rotate_left
          refine StepsF.take ?_ ?_
          rotate_left
          refine StepsF.take ?_ ?_
          rotate_left
          refine StepsF.take ?_ ?_
          rotate_left
          refine StepsF.take ?_ ?_
          rotate_left
          refine StepsF.take ?_ ?_
          rotate_left
          refine StepsF.take ?_ ?_
          rotate_left
          refine StepsF.take ?_ ?_
          rotate_left
          refine StepsF.take ?_ ?_
          rotate_left
          refine StepsF.take ?_ ?_
          rotate_left
          refine StepsF.take ?_ ?_
          rotate_left
          refine StepsF.take ?_ ?_
          rotate_left
          refine StepsF.take ?_ ?_
          rotate_left
          refine StepsF.take ?_ ?_
          rotate_left
          refine StepsF.take ?_ ?_
          rotate_left
          refine StepsF.take ?_ ?_
          rotate_left
          refine StepsF.take ?_ ?_
          rotate_left
          refine StepsF.take ?_ ?_
          rotate_left
          refine StepsF.take ?_ ?_
          rotate_left
          refine StepsF.take ?_ ?_
          rotate_left
          refine StepsF.take ?_ ?_
          rotate_left
          refine StepsF.take ?_ ?_
          rotate_left
          exact StepsF.nil
          · (intro V B A W hE hd; replace hE := Ext.trans (Ext.drew (Ext.refl _)) hE; intro K hK; simp only [putL, List.getD_cons_zero, List.getD_cons_succ, Act.put, List.setIfInBounds_toArray, List.set_cons_zero, List.set_cons_succ] at hK ⊢; go_simp; (with_reducible refine (calc_cmp pc _ (KC.out.ext hE) (Vb.out.ext hE) (Va.out.ext hE) Lb.out La.out).mono ?_); rintro e w2 ⟨rfl, hy⟩; exact hK.out _ _ ⟨by first | rfl | rw [HO1.out], trivial⟩ hy)
          · (intro V B A W hE hd; replace hE := Ext.trans (Ext.drew (Ext.refl _)) hE; obtain ⟨f3, -⟩ := hd; have r3 := f3.rel; simp only [List.getD_cons_zero, List.getD_cons_succ] at r3; obtain ⟨e3, -⟩ := r3; intro K hK; simp only [putL, List.getD_cons_zero, List.getD_cons_succ, Act.put, List.setIfInBounds_toArray, List.set_cons_zero, List.set_cons_succ, e3] at hK ⊢; go_simp; exact hK.out _ _ ⟨rfl, trivial⟩ (Ext.refl _))
          · (intro V B A W hE hd; replace hE := Ext.trans (Ext.drew (Ext.refl _)) hE; obtain ⟨f4, -⟩ := hd; have r4 := f4.rel; simp only [List.getD_cons_zero, List.getD_cons_succ] at r4; obtain ⟨e4, -⟩ := r4; intro K hK; simp only [putL, List.getD_cons_zero, List.getD_cons_succ, Act.put, List.setIfInBounds_toArray, List.set_cons_zero, List.set_cons_succ, e4] at hK ⊢; go_simp; exact hK.out _ _ ⟨rfl, trivial⟩ (Ext.refl _))
          · (intro V B A W hE hd; replace hE := Ext.trans (Ext.drew (Ext.refl _)) hE; obtain ⟨f5, -⟩ := hd; have r5 := f5.rel; simp only [List.getD_cons_zero, List.getD_cons_succ] at r5; obtain ⟨e5, -⟩ := r5; intro K hK; simp only [putL, List.getD_cons_zero, List.getD_cons_succ, Act.put, List.setIfInBounds_toArray, List.set_cons_zero, List.set_cons_succ, e5] at hK ⊢; go_simp; exact hK.out _ _ ⟨rfl, trivial⟩ (Ext.refl _))
          · (intro V B A W hE hd; replace hE := Ext.trans (Ext.drew (Ext.refl _)) hE; obtain ⟨f6, -⟩ := hd; have r6 := f6.rel; simp only [List.getD_cons_zero, List.getD_cons_succ] at r6; obtain ⟨e6, -⟩ := r6; intro K hK; simp only [putL, List.getD_cons_zero, List.getD_cons_succ, Act.put, List.setIfInBounds_toArray, List.set_cons_zero, List.set_cons_succ, e6] at hK ⊢; rw [if_pos (by rfl)]; go_simp; exact hK.out _ _ ⟨rfl, trivial⟩ (Ext.refl _))
          · (intro V B A W hE hd; replace hE := Ext.trans (Ext.drew (Ext.refl _)) hE; obtain ⟨f6, f7, -⟩ := hd; have r6 := f6.rel; simp only [List.getD_cons_zero, List.getD_cons_succ] at r6; obtain ⟨e6, -⟩ := r6; have r7 := f7.rel; simp only [List.getD_cons_zero, List.getD_cons_succ] at r7; obtain ⟨e7, -⟩ := r7; intro K hK; simp only [putL, List.getD_cons_zero, List.getD_cons_succ, Act.put, List.setIfInBounds_toArray, List.set_cons_zero, List.set_cons_succ, e6, e7] at hK ⊢; rw [if_pos (by rfl)]; go_simp; exact hK.out _ _ ⟨rfl, trivial⟩ (Ext.refl _))
          · (intro V B A W hE hd; replace hE := Ext.trans (Ext.drew (Ext.refl _)) hE; obtain ⟨f6, -⟩ := hd; have r6 := f6.rel; simp only [List.getD_cons_zero, List.getD_cons_succ] at r6; obtain ⟨e6, -⟩ := r6; have h0 := cell_ext hE dc0; have h1 := cell_ext hE dc1; intro K hK; simp only [putL, List.getD_cons_zero, List.getD_cons_succ, Act.put, List.setIfInBounds_toArray, List.set_cons_zero, List.set_cons_succ, e6] at hK ⊢; rw [if_pos (by rfl)]; go_simp; exact hK.out _ _ ⟨rfl, trivial⟩ (Ext.refl _))
          · (intro V B A W hE hd; replace hE := Ext.trans (Ext.drew (Ext.refl _)) hE; obtain ⟨f6, -⟩ := hd; have r6 := f6.rel; simp only [List.getD_cons_zero, List.getD_cons_succ] at r6; obtain ⟨e6, -⟩ := r6; have h0 := cell_ext hE dc2; have h1 := cell_ext hE dc3; intro K hK; simp only [putL, List.getD_cons_zero, List.getD_cons_succ, Act.put, List.setIfInBounds_toArray, List.set_cons_zero, List.set_cons_succ, e6] at hK ⊢; rw [if_pos (by rfl)]; go_simp; exact hK.out _ _ ⟨rfl, trivial⟩ (Ext.refl _))
          · (intro V B A W hE hd; replace hE := Ext.trans (Ext.drew (Ext.refl _)) hE; obtain ⟨f6, f9, f10, -⟩ := hd; have r6 := f6.rel; simp only [List.getD_cons_zero, List.getD_cons_succ] at r6; obtain ⟨e6, -⟩ := r6; have r9 := f9.rel; simp only [List.getD_cons_zero, List.getD_cons_succ] at r9; obtain ⟨e9, -⟩ := r9; have r10 := f10.rel; simp only [List.getD_cons_zero, List.getD_cons_succ] at r10; obtain ⟨e10, -⟩ := r10; intro K hK; simp only [putL, List.getD_cons_zero, List.getD_cons_succ, Act.put, List.setIfInBounds_toArray, List.set_cons_zero, List.set_cons_succ, e6, e9, e10] at hK ⊢; rw [if_pos (by rfl)]; go_simp; (with_reducible refine (ref_Same_gen (Va.out.ext hE) (Vb.out.ext hE)).mono ?_); rintro e w2 ⟨rfl, hy⟩; exact hK.out _ _ ⟨by first | rfl | rw [HEQ.out], trivial⟩ hy)
          · (intro V B A W hE hd; replace hE := Ext.trans (Ext.drew (Ext.refl _)) hE; obtain ⟨f6, f8, f11, -⟩ := hd; have r6 := f6.rel; simp only [List.getD_cons_zero, List.getD_cons_succ] at r6; obtain ⟨e6, -⟩ := r6; have r8 := f8.rel; simp only [List.getD_cons_zero, List.getD_cons_succ] at r8; obtain ⟨e8, -⟩ := r8; have r11 := f11.rel; simp only [List.getD_cons_zero, List.getD_cons_succ] at r11; obtain ⟨e11, -⟩ := r11; intro K hK; simp only [putL, List.getD_cons_zero, List.getD_cons_succ, Act.put, List.setIfInBounds_toArray, List.set_cons_zero, List.set_cons_succ, e6, e8, e11] at hK ⊢; rw [if_pos (by rfl)]; go_simp; exact hK.out _ _ ⟨rfl, trivial⟩ (Ext.refl _))
          · (intro V B A W hE hd; replace hE := Ext.trans (Ext.drew (Ext.refl _)) hE; obtain ⟨f6, f12, -⟩ := hd; have r6 := f6.rel; simp only [List.getD_cons_zero, List.getD_cons_succ] at r6; obtain ⟨e6, -⟩ := r6; have r12 := f12.rel; simp only [List.getD_cons_zero, List.getD_cons_succ] at r12; obtain ⟨e12, -⟩ := r12; intro K hK; simp only [putL, List.getD_cons_zero, List.getD_cons_succ, Act.put, List.setIfInBounds_toArray, List.set_cons_zero, List.set_cons_succ, e6, e12] at hK ⊢; go_simp; exact hK.out _ _ ⟨rfl, trivial⟩ (Ext.refl _))
          · (intro V B A W hE hd; replace hE := Ext.trans (Ext.drew (Ext.refl _)) hE; obtain ⟨f13, -⟩ := hd; have r13 := f13.rel; simp only [List.getD_cons_zero, List.getD_cons_succ] at r13; obtain ⟨e13, -⟩ := r13; intro K hK; simp only [putL, List.getD_cons_zero, List.getD_cons_succ, Act.put, List.setIfInBounds_toArray, List.set_cons_zero, List.set_cons_succ, e13] at hK ⊢; go_simp; exact hK.out _ _ ⟨rfl, trivial⟩ (Ext.refl _))
          · (intro V B A W hE hd; replace hE := Ext.trans (Ext.drew (Ext.refl _)) hE; obtain ⟨f14, -⟩ := hd; have r14 := f14.rel; simp only [List.getD_cons_zero, List.getD_cons_succ] at r14; obtain ⟨e14, -⟩ := r14; have h0 := cell_ext hE dc0; have h1 := cell_ext hE dc1; intro K hK; simp only [putL, List.getD_cons_zero, List.getD_cons_succ, Act.put, List.setIfInBounds_toArray, List.set_cons_zero, List.set_cons_succ, e14] at hK ⊢; rw [if_pos (by rfl)]; go_simp; exact hK.out _ _ ⟨rfl, trivial⟩ (Ext.refl _))
          · (intro V B A W hE hd; replace hE := Ext.trans (Ext.drew (Ext.refl _)) hE; obtain ⟨f14, -⟩ := hd; have r14 := f14.rel; simp only [List.getD_cons_zero, List.getD_cons_succ] at r14; obtain ⟨e14, -⟩ := r14; have h0 := cell_ext hE dc4; have h1 := cell_ext hE dc5; intro K hK; simp only [putL, List.getD_cons_zero, List.getD_cons_succ, Act.put, List.setIfInBounds_toArray, List.set_cons_zero, List.set_cons_succ, e14] at hK ⊢; rw [if_pos (by rfl)]; go_simp; exact hK.out _ _ ⟨rfl, trivial⟩ (Ext.refl _))
          · (intro V B A W hE hd; replace hE := Ext.trans (Ext.drew (Ext.refl _)) hE; obtain ⟨f14, f15, f16, -⟩ := hd; have r14 := f14.rel; simp only [List.getD_cons_zero, List.getD_cons_succ] at r14; obtain ⟨e14, -⟩ := r14; have r15 := f15.rel; simp only [List.getD_cons_zero, List.getD_cons_succ] at r15; obtain ⟨e15, -⟩ := r15; have r16 := f16.rel; simp only [List.getD_cons_zero, List.getD_cons_succ] at r16; obtain ⟨e16, -⟩ := r16; intro K hK; simp only [putL, List.getD_cons_zero, List.getD_cons_succ, Act.put, List.setIfInBounds_toArray, List.set_cons_zero, List.set_cons_succ, e14, e15, e16] at hK ⊢; rw [if_pos (by rfl)]; go_simp; (with_reducible refine (calc_add pc _ (KC.out.ext hE) (Va.out.ext hE) (Vd.out.ext hE) La.out Ld.out Ls1.out).mono ?_); rintro e w2 ⟨v, rfl, hv, hy⟩; exact hK.out _ _ ⟨hv.val, trivial⟩ hy)
          · (intro V B A W hE hd; replace hE := Ext.trans (Ext.drew (Ext.refl _)) hE; obtain ⟨f14, -⟩ := hd; have r14 := f14.rel; simp only [List.getD_cons_zero, List.getD_cons_succ] at r14; obtain ⟨e14, -⟩ := r14; have h0 := cell_ext hE dc2; have h1 := cell_ext hE dc3; intro K hK; simp only [putL, List.getD_cons_zero, List.getD_cons_succ, Act.put, List.setIfInBounds_toArray, List.set_cons_zero, List.set_cons_succ, e14] at hK ⊢; rw [if_pos (by rfl)]; go_simp; exact hK.out _ _ ⟨rfl, trivial⟩ (Ext.refl _))
          · (intro V B A W hE hd; replace hE := Ext.trans (Ext.drew (Ext.refl _)) hE; obtain ⟨f14, -⟩ := hd; have r14 := f14.rel; simp only [List.getD_cons_zero, List.getD_cons_succ] at r14; obtain ⟨e14, -⟩ := r14; have h0 := cell_ext hE dc4; have h1 := cell_ext hE dc5; intro K hK; simp only [putL, List.getD_cons_zero, List.getD_cons_succ, Act.put, List.setIfInBounds_toArray, List.set_cons_zero, List.set_cons_succ, e14] at hK ⊢; rw [if_pos (by rfl)]; go_simp; exact hK.out _ _ ⟨rfl, trivial⟩ (Ext.refl _))
          · (intro V B A W hE hd; replace hE := Ext.trans (Ext.drew (Ext.refl _)) hE; obtain ⟨f14, f18, f19, -⟩ := hd; have r14 := f14.rel; simp only [List.getD_cons_zero, List.getD_cons_succ] at r14; obtain ⟨e14, -⟩ := r14; have r18 := f18.rel; simp only [List.getD_cons_zero, List.getD_cons_succ] at r18; obtain ⟨e18, -⟩ := r18; have r19 := f19.rel; simp only [List.getD_cons_zero, List.getD_cons_succ] at r19; obtain ⟨e19, -⟩ := r19; intro K hK; simp only [putL, List.getD_cons_zero, List.getD_cons_succ, Act.put, List.setIfInBounds_toArray, List.set_cons_zero, List.set_cons_succ, e14, e18, e19] at hK ⊢; rw [if_pos (by rfl)]; go_simp; (with_reducible refine (calc_add pc _ (KC.out.ext hE) (Vb.out.ext hE) (Vd.out.ext hE) Lb.out Ld.out Ls2.out).mono ?_); rintro e w2 ⟨v, rfl, hv, hy⟩; exact hK.out _ _ ⟨hv.val, trivial⟩ hy)
          · (intro V B A W hE hd; replace hE := Ext.trans (Ext.drew (Ext.refl _)) hE; obtain ⟨f14, f17, f20, -⟩ := hd; have r14 := f14.rel; simp only [List.getD_cons_zero, List.getD_cons_succ] at r14; obtain ⟨e14, -⟩ := r14; have r17 := f17.rel; simp only [List.getD_cons_zero, List.getD_cons_succ] at r17; obtain ⟨b17, -⟩ := r17; have r20 := f20.rel; simp only [List.getD_cons_zero, List.getD_cons_succ] at r20; obtain ⟨b20, -⟩ := r20; intro K hK; simp only [putL, List.getD_cons_zero, List.getD_cons_succ, Act.put, List.setIfInBounds_toArray, List.set_cons_zero, List.set_cons_succ, e14] at hK ⊢; rw [if_pos (by rfl)]; go_simp; (with_reducible refine (calc_cmp pc _ (KC.out.ext hE) (BigV.ext b17 f17.e2) (BigV.ext b20 f20.e2) Ls1.out Ls2.out).mono ?_); rintro e w2 ⟨rfl, hy⟩; exact hK.out _ _ ⟨by first | rfl | rw [HO2.out], trivial⟩ hy)
          · (intro V B A W hE hd; replace hE := Ext.trans (Ext.drew (Ext.refl _)) hE; obtain ⟨f14, -⟩ := hd; have r14 := f14.rel; simp only [List.getD_cons_zero, List.getD_cons_succ] at r14; obtain ⟨e14, -⟩ := r14; intro K hK; simp only [putL, List.getD_cons_zero, List.getD_cons_succ, Act.put, List.setIfInBounds_toArray, List.set_cons_zero, List.set_cons_succ, e14] at hK ⊢; rw [if_pos (by rfl)]; go_simp; exact hK.out _ _ ⟨rfl, trivial⟩ (Ext.refl _))
          · (intro V B A W hE hd; replace hE := Ext.trans (Ext.drew (Ext.refl _)) hE; obtain ⟨f14, f21, f22, -⟩ := hd; have r14 := f14.rel; simp only [List.getD_cons_zero, List.getD_cons_succ] at r14; obtain ⟨e14, -⟩ := r14; have r21 := f21.rel; simp only [List.getD_cons_zero, List.getD_cons_succ] at r21; obtain ⟨e21, -⟩ := r21; have r22 := f22.rel; simp only [List.getD_cons_zero, List.getD_cons_succ] at r22; obtain ⟨e22, -⟩ := r22; intro K hK; simp only [putL, List.getD_cons_zero, List.getD_cons_succ, Act.put, List.setIfInBounds_toArray, List.set_cons_zero, List.set_cons_succ, e14, e21, e22] at hK ⊢; rw [if_pos (by rfl)]; go_simp; exact hK.out _ _ ⟨rfl, trivial⟩ (Ext.refl _))
          · (intro V B A W hE hd; replace hE := Ext.trans (Ext.drew (Ext.refl _)) hE; obtain ⟨f14, f23, -⟩ := hd; have r14 := f14.rel; simp only [List.getD_cons_zero, List.getD_cons_succ] at r14; obtain ⟨e14, -⟩ := r14; have r23 := f23.rel; simp only [List.getD_cons_zero, List.getD_cons_succ] at r23; obtain ⟨e23, -⟩ := r23; intro K hK; simp only [putL, List.getD_cons_zero, List.getD_cons_succ, Act.put, List.setIfInBounds_toArray, List.set_cons_zero, List.set_cons_succ, e14, e23] at hK ⊢; go_simp; exact hK.out _ _ ⟨rfl, trivial⟩ (Ext.refl _))
          · (intro V B A W hE hd; replace hE := Ext.trans (Ext.drew (Ext.refl _)) hE; obtain ⟨f24, -⟩ := hd; have r24 := f24.rel; simp only [List.getD_cons_zero, List.getD_cons_succ] at r24; obtain ⟨e24, -⟩ := r24; intro K hK; simp only [putL, List.getD_cons_zero, List.getD_cons_succ, Act.put, List.setIfInBounds_toArray, List.set_cons_zero, List.set_cons_succ, e24] at hK ⊢; go_simp; exact hK.out _ _ ⟨rfl, trivial⟩ (Ext.refl _))
          · (intro V B A W hE hd; replace hE := Ext.trans (Ext.drew (Ext.refl _)) hE; obtain ⟨f25, -⟩ := hd; have r25 := f25.rel; simp only [List.getD_cons_zero, List.getD_cons_succ] at r25; obtain ⟨e25, -⟩ := r25; have h0 := cell_ext hE dc0; have h1 := cell_ext hE dc1; intro K hK; simp only [putL, List.getD_cons_zero, List.getD_cons_succ, Act.put, List.setIfInBounds_toArray, List.set_cons_zero, List.set_cons_succ, e25] at hK ⊢; rw [if_pos (by rfl)]; go_simp; exact hK.out _ _ ⟨rfl, trivial⟩ (Ext.refl _))
          · (intro V B A W hE hd; replace hE := Ext.trans (Ext.drew (Ext.refl _)) hE; obtain ⟨f25, -⟩ := hd; have r25 := f25.rel; simp only [List.getD_cons_zero, List.getD_cons_succ] at r25; obtain ⟨e25, -⟩ := r25; have h0 := cell_ext hE dc2; have h1 := cell_ext hE dc3; intro K hK; simp only [putL, List.getD_cons_zero, List.getD_cons_succ, Act.put, List.setIfInBounds_toArray, List.set_cons_zero, List.set_cons_succ, e25] at hK ⊢; rw [if_pos (by rfl)]; go_simp; exact hK.out _ _ ⟨rfl, trivial⟩ (Ext.refl _))
          · (intro V B A W hE hd; replace hE := Ext.trans (Ext.drew (Ext.refl _)) hE; obtain ⟨f25, f26, f27, -⟩ := hd; have r25 := f25.rel; simp only [List.getD_cons_zero, List.getD_cons_succ] at r25; obtain ⟨e25, -⟩ := r25; have r26 := f26.rel; simp only [List.getD_cons_zero, List.getD_cons_succ] at r26; obtain ⟨e26, -⟩ := r26; have r27 := f27.rel; simp only [List.getD_cons_zero, List.getD_cons_succ] at r27; obtain ⟨e27, -⟩ := r27; intro K hK; simp only [putL, List.getD_cons_zero, List.getD_cons_succ, Act.put, List.setIfInBounds_toArray, List.set_cons_zero, List.set_cons_succ, e25, e26, e27] at hK ⊢; rw [if_pos (by rfl)]; go_simp; (with_reducible refine (calc_sub pc _ (KC.out.ext hE) (Va.out.ext hE) (Vb.out.ext hE) La.out Lb.out Ls3.out).mono ?_); rintro e w2 ⟨v, rfl, hv, hy⟩; exact hK.out _ _ ⟨hv.val, trivial⟩ hy)
          · (intro V B A W hE hd; replace hE := Ext.trans (Ext.drew (Ext.refl _)) hE; obtain ⟨f25, -⟩ := hd; have r25 := f25.rel; simp only [List.getD_cons_zero, List.getD_cons_succ] at r25; obtain ⟨e25, -⟩ := r25; intro K hK; simp only [putL, List.getD_cons_zero, List.getD_cons_succ, Act.put, List.setIfInBounds_toArray, List.set_cons_zero, List.set_cons_succ, e25] at hK ⊢; rw [if_pos (by rfl)]; go_simp; exact hK.out _ _ ⟨rfl, trivial⟩ (Ext.refl _))
          · (intro V B A W hE hd; replace hE := Ext.trans (Ext.drew (Ext.refl _)) hE; obtain ⟨f25, f28, f29, -⟩ := hd; have r25 := f25.rel; simp only [List.getD_cons_zero, List.getD_cons_succ] at r25; obtain ⟨e25, -⟩ := r25; have r28 := f28.rel; simp only [List.getD_cons_zero, List.getD_cons_succ] at r28; obtain ⟨b28, -⟩ := r28; have r29 := f29.rel; simp only [List.getD_cons_zero, List.getD_cons_succ] at r29; obtain ⟨e29, -⟩ := r29; intro K hK; simp only [putL, List.getD_cons_zero, List.getD_cons_succ, Act.put, List.setIfInBounds_toArray, List.set_cons_zero, List.set_cons_succ, e25, e29] at hK ⊢; rw [if_pos (by rfl)]; go_simp; (with_reducible refine (calc_cmp pc _ (KC.out.ext hE) (BigV.ext b28 f28.e2) (BigV.zero _) Ls3.out L0.out).mono ?_); rintro e w2 ⟨rfl, hy⟩; exact hK.out _ _ ⟨by first | rfl | rw [HO3.out], trivial⟩ hy)
          · (intro V B A W hE hd; replace hE := Ext.trans (Ext.drew (Ext.refl _)) hE; obtain ⟨f25, -⟩ := hd; have r25 := f25.rel; simp only [List.getD_cons_zero, List.getD_cons_succ] at r25; obtain ⟨e25, -⟩ := r25; intro K hK; simp only [putL, List.getD_cons_zero, List.getD_cons_succ, Act.put, List.setIfInBounds_toArray, List.set_cons_zero, List.set_cons_succ, e25] at hK ⊢; rw [if_pos (by rfl)]; go_simp; exact hK.out _ _ ⟨rfl, trivial⟩ (Ext.refl _))
          · (intro V B A W hE hd; replace hE := Ext.trans (Ext.drew (Ext.refl _)) hE; obtain ⟨f25, f30, f31, -⟩ := hd; have r25 := f25.rel; simp only [List.getD_cons_zero, List.getD_cons_succ] at r25; obtain ⟨e25, -⟩ := r25; have r30 := f30.rel; simp only [List.getD_cons_zero, List.getD_cons_succ] at r30; obtain ⟨e30, -⟩ := r30; have r31 := f31.rel; simp only [List.getD_cons_zero, List.getD_cons_succ] at r31; obtain ⟨e31, -⟩ := r31; intro K hK; simp only [putL, List.getD_cons_zero, List.getD_cons_succ, Act.put, List.setIfInBounds_toArray, List.set_cons_zero, List.set_cons_succ, e25, e30, e31] at hK ⊢; rw [if_pos (by rfl)]; go_simp; exact hK.out _ _ ⟨rfl, trivial⟩ (Ext.refl _))
          · (intro V B A W hE hd; replace hE := Ext.trans (Ext.drew (Ext.refl _)) hE; obtain ⟨f25, f32, -⟩ := hd; have r25 := f25.rel; simp only [List.getD_cons_zero, List.getD_cons_succ] at r25; obtain ⟨e25, -⟩ := r25; have r32 := f32.rel; simp only [List.getD_cons_zero, List.getD_cons_succ] at r32; obtain ⟨e32, -⟩ := r32; intro K hK; simp only [putL, List.getD_cons_zero, List.getD_cons_succ, Act.put, List.setIfInBounds_toArray, List.set_cons_zero, List.set_cons_succ, e25, e32] at hK ⊢; go_simp; exact hK.out _ _ ⟨rfl, trivial⟩ (Ext.refl _))
        case fin15 =>
          intro V B A w3 hd hp hx3
          replace hx3 := Ext.trans (Ext.drew (Ext.refl _)) hx3
          obtain ⟨f3, f4, f5, f6, f7, f8, f9, f10, f11, f12, f13, f14, f15, f16, f17, f18, f19, f20, f21, f22, f23, f24, f25, f26, f27, f28, f29, f30, f31, f32, f33, -⟩ := hd
          have r33 := f33.rel
          simp only [List.getD_cons_zero, List.getD_cons_succ] at r33
          obtain ⟨e33, -⟩ := r33
          simp only [putL, List.getD_cons_zero, List.getD_cons_succ, Act.put, List.setIfInBounds_toArray, List.set_cons_zero, List.set_cons_succ, e33]
          go_wp2_with fail
          go_meet
          exact ⟨rfl, hx3⟩
      case rest =>
      obtain ⟨rfl, hy⟩ := hcut
      replace hx := hx.trans hy
      replace Ka := Lib.hid (Ka.out.ext hy)
      replace Kb := Lib.hid (Kb.out.ext hy)
      replace Kd := Lib.hid (Kd.out.ext hy)
      replace Va := Lib.hid (Va.out.ext hy)
      replace Vb := Lib.hid (Vb.out.ext hy)
      replace Vd := Lib.hid (Vd.out.ext hy)
      replace KC := Lib.hid (KC.out.ext hy)
      replace HPr := Lib.hid (HPr.out.ext hy)
      clear hy o0 o1 o2
      go_upto_region 17 with fail
      obtain ⟨p, hp⟩ : ∃ p, cmpI zd 0 = p := ⟨_, rfl⟩
      have HP := Lib.hid hp
      have hpp := cmpI_pos zd
      rw [hp] at hpp
      clear hp
      go_cut [156] (fun s156 wx => s156 = .bool false ∧ Ext wc wx)
      case first =>
        have oo : (o != o) = false := by simp
        have o3 : IntKind.i64.wrap o = o := IntWalk.i64_in _ (by omega)
        by_cases hdp : 0 < zd
        · have HDP := Lib.hid hdp
          have u1 : decide (0 < p) = true := by rw [hpp]; simpa using hdp
          have HO4 := Lib.hid (show cmpI (za * zd) (zb * zd) = o from by rw [cmpI_mul hdp]; exact HO.out)
          clear hdp hpp
          have Dm1 : Hid ((za * zd).natAbs < 1073741824 ^ 24) := Lib.hid (mul_lt Da.out Dd.out)
          have Lm1 := Lib.hid (len_lt Dm1.out (by omega))
          have Dm2 : Hid ((zb * zd).natAbs < 1073741824 ^ 24) := Lib.hid (mul_lt Db.out Dd.out)
          have Lm2 := Lib.hid (len_lt Dm2.out (by omega))
          have dc0 : wc.cell? ⟨w.heap.size, 0, none⟩ = some (.bool na) := Ka.out.cell (i := 0) rfl
          have dc1 : wc.cell? ⟨w.heap.size, 1, none⟩ = some (.slice aa qa ca) := Ka.out.cell (i := 1) rfl
          have dc2 : wc.cell? ⟨w.heap.size + 1, 0, none⟩ = some (.bool nb) := Kb.out.cell (i := 0) rfl
          have dc3 : wc.cell? ⟨w.heap.size + 1, 1, none⟩ = some (.slice ab qb cb) := Kb.out.cell (i := 1) rfl
          have dc4 : wc.cell? ⟨w.heap.size + 2, 0, none⟩ = some (.bool nd) := Kd.out.cell (i := 0) rfl
          have dc5 : wc.cell? ⟨w.heap.size + 2, 1, none⟩ = some (.slice ad qd cd) := Kd.out.cell (i := 1) rfl
          refine wp_region_begin (S := (fun w' => w'.cell? ⟨w.heap.size, 0, none⟩ = some (.bool na) ∧ w'.cell? ⟨w.heap.size, 1, none⟩ = some (.slice aa qa ca) ∧ w'.cell? ⟨w.heap.size + 1, 0, none⟩ = some (.bool nb) ∧ w'.cell? ⟨w.heap.size + 1, 1, none⟩ = some (.slice ab qb cb) ∧ w'.cell? ⟨w.heap.size + 2, 0, none⟩ = some (.bool nd) ∧ w'.cell? ⟨w.heap.size + 2, 1, none⟩ = some (.slice ad qd cd))) 15 (false :: false :: false :: false :: false :: false :: false :: false :: false :: false :: false :: false :: false :: false :: false :: []) (by kernel_rfl) (by kernel_rfl) ?_ (fun hHeld => ?_)
          · exact ⟨dc0, dc1, dc2, dc3, dc4, dc5⟩
          refine wpAnyH_takeD (i := 0) (oi := _) (v := ?_) (some 142) rfl (by kernel_rfl) (by kernel_rfl) (by kernel_rfl) (by kernel_rfl) (fun _ _ _ h => h) (Or.inl ⟨by rfl, ?_⟩) (by assumption) ?_
          rotate_left
          · (intro w hSw; (try dsimp only at hSw); (try go_simp); (try with_reducible rfl))
          (try simp only [Act.put, List.getElem_toArray, List.getElem_cons_succ, List.getElem_cons_zero, List.setIfInBounds_toArray, List.set_cons_zero, List.set_cons_succ])
          refine wpAnyH_takeD (i := 1) (oi := _) (v := ?_) (some 143) rfl (by kernel_rfl) (by kernel_rfl) (by kernel_rfl) (by kernel_rfl) (fun _ _ _ h => h) (Or.inl ⟨by rfl, ?_⟩) (by assumption) ?_
          rotate_left
          · (intro w hSw; (try dsimp only at hSw); (try go_simp); (try with_reducible rfl))
          (try simp only [Act.put, List.getElem_toArray, List.getElem_cons_succ, List.getElem_cons_zero, List.setIfInBounds_toArray, List.set_cons_zero, List.set_cons_succ])
          refine wpAnyH_steps (2 :: 3 :: 4 :: 5 :: 6 :: 7 :: 8 :: 9 :: 10 :: 11 :: 12 :: 13 :: 14 :: []) ((fun _ _ _ => True) ::
              (fun _ _ _ => True) ::
              (fun v _ _ => v = .int .i64 p ∧ True) ::
              (fun v _ _ => v = .bool true ∧ True) ::
              (fun v _ _ => v = .bool true ∧ True) ::
              (fun v _ _ => v = .agg #[.bool na, .slice aa qa ca] ∧ True) ::
              (fun v _ _ => v = .agg #[.bool nd, .slice ad qd cd] ∧ True) ::
              (fun v _ w2 => BigV w2 v (za * zd) ∧ True) ::
              (fun v _ _ => v = .agg #[.bool nb, .slice ab qb cb] ∧ True) ::
              (fun v _ _ => v = .agg #[.bool nd, .slice ad qd cd] ∧ True) ::
              (fun v _ w2 => BigV w2 v (zb * zd) ∧ True) ::
              (fun v _ _ => v = .int .i64 o ∧ True) ::
              (fun v _ _ => v = .int .i64 o ∧ True) ::
              (fun v _ _ => v = .bool false ∧ True) ::
              (fun v _ _ => v = .bool false ∧ True) ::
              []) (some 142 :: some 143 :: some 144 :: some 145 :: some 146 :: some 147 :: some 148 :: some 149 :: some 150 :: some 151 :: some 152 :: some 153 :: some 154 :: some 155 :: some 156 :: []) ([] :: [] :: [] :: [2] :: [3] :: [4] :: [4] :: [4, 5, 6] :: [4] :: [4] :: [4, 8, 9] :: [4, 7, 10] :: [4] :: [4, 11, 12] :: [4, 13] :: []) (by kernel_rfl) (fun w3 hy => ?_) ?steps17 ?fin17
          · exact ⟨cell_ext (Ext.trans (Ext.drew (Ext.refl _)) hy) dc0, cell_ext (Ext.trans (Ext.drew (Ext.refl _)) hy) dc1, cell_ext (Ext.trans (Ext.drew (Ext.refl _)) hy) dc2, cell_ext (Ext.trans (Ext.drew (Ext.refl _)) hy) dc3, cell_ext (Ext.trans (Ext.drew (Ext.refl _)) hy) dc4, cell_ext (Ext.trans (Ext.drew (Ext.refl _)) hy) dc5⟩
          case steps17 =>
            refine StepsF.skip ?_
            refine StepsF.skip ?_
            refine StepsF.take ?_ ?_
            rotate_left
            refine StepsF.take ?_ ?_
            rotate_left
            refine StepsF.take ?_ ?_
            rotate_left
            refine StepsF.take ?_ ?_
            rotate_left
            refine StepsF.take ?_ ?_
            rotate_left
            refine StepsF.take ?_ ?_
            rotate_left
            refine StepsF.take ?_ ?_
            rotate_left
            refine StepsF.take ?_ ?_
            rotate_left
            refine StepsF.take ?_ ?_
            rotate_left
            refine StepsF.take ?_ ?_
            rotate_left
            refine StepsF.take ?_ ?_
            rotate_left
            refine StepsF.take ?_ ?_
            rotate_left
            refine StepsF.take ?_ ?_
            rotate_left
            exact StepsF.nil
            · (intro V B A W hE hd; replace hE := Ext.trans (Ext.drew (Ext.refl _)) hE; intro K hK; simp only [putL, List.getD_cons_zero, List.getD_cons_succ, Act.put, List.setIfInBounds_toArray, List.set_cons_zero, List.set_cons_succ] at hK ⊢; go_simp; (with_reducible refine (calc_cmp pc _ (KC.out.ext hE) (Vd.out.ext hE) (BigV.zero _) Ld.out L0.out).mono ?_); rintro e w2 ⟨rfl, hy⟩; exact hK.out _ _ ⟨by first | rfl | rw [HP.out], trivial⟩ hy)
            · (intro V B A W hE hd; replace hE := Ext.trans (Ext.drew (Ext.refl _)) hE; obtain ⟨f2, -⟩ := hd; have r2 := f2.rel; simp only [List.getD_cons_zero, List.getD_cons_succ] at r2; obtain ⟨e2, -⟩ := r2; intro K hK; simp only [putL, List.getD_cons_zero, List.getD_cons_succ, Act.put, List.setIfInBounds_toArray, List.set_cons_zero, List.set_cons_succ, e2] at hK ⊢; go_simp; exact hK.out _ _ ⟨rfl, trivial⟩ (Ext.refl _))
            · (intro V B A W hE hd; replace hE := Ext.trans (Ext.drew (Ext.refl _)) hE; obtain ⟨f3, -⟩ := hd; have r3 := f3.rel; simp only [List.getD_cons_zero, List.getD_cons_succ] at r3; obtain ⟨e3, -⟩ := r3; intro K hK; simp only [putL, List.getD_cons_zero, List.getD_cons_succ, Act.put, List.setIfInBounds_toArray, List.set_cons_zero, List.set_cons_succ, e3] at hK ⊢; go_simp; exact hK.out _ _ ⟨rfl, trivial⟩ (Ext.refl _))
            · (intro V B A W hE hd; replace hE := Ext.trans (Ext.drew (Ext.refl _)) hE; obtain ⟨f4, -⟩ := hd; have r4 := f4.rel; simp only [List.getD_cons_zero, List.getD_cons_succ] at r4; obtain ⟨e4, -⟩ := r4; have h0 := cell_ext hE dc0; have h1 := cell_ext hE dc1; intro K hK; simp only [putL, List.getD_cons_zero, List.getD_cons_succ, Act.put, List.setIfInBounds_toArray, List.set_cons_zero, List.set_cons_succ, e4] at hK ⊢; rw [if_pos (by rfl)]; go_simp; exact hK.out _ _ ⟨rfl, trivial⟩ (Ext.refl _))
            · (intro V B A W hE hd; replace hE := Ext.trans (Ext.drew (Ext.refl _)) hE; obtain ⟨f4, -⟩ := hd; have r4 := f4.rel; simp only [List.getD_cons_zero, List.getD_cons_succ] at r4; obtain ⟨e4, -⟩ := r4; have h0 := cell_ext hE dc4; have h1 := cell_ext hE dc5; intro K hK; simp only [putL, List.getD_cons_zero, List.getD_cons_succ, Act.put, List.setIfInBounds_toArray, List.set_cons_zero, List.set_cons_succ, e4] at hK ⊢; rw [if_pos (by rfl)]; go_simp; exact hK.out _ _ ⟨rfl, trivial⟩ (Ext.refl _))
            · (intro V B A W hE hd; replace hE := Ext.trans (Ext.drew (Ext.refl _)) hE; obtain ⟨f4, f5, f6, -⟩ := hd; have r4 := f4.rel; simp only [List.getD_cons_zero, List.getD_cons_succ] at r4; obtain ⟨e4, -⟩ := r4; have r5 := f5.rel; simp only [List.getD_cons_zero, List.getD_cons_succ] at r5; obtain ⟨e5, -⟩ := r5; have r6 := f6.rel; simp only [List.getD_cons_zero, List.getD_cons_succ] at r6; obtain ⟨e6, -⟩ := r6; intro K hK; simp only [putL, List.getD_cons_zero, List.getD_cons_succ, Act.put, List.setIfInBounds_toArray, List.set_cons_zero, List.set_cons_succ, e4, e5, e6] at hK ⊢; rw [if_pos (by rfl)]; go_simp; (with_reducible refine (calc_mul pc _ (KC.out.ext hE) (Va.out.ext hE) (Vd.out.ext hE) La.out Ld.out Lm1.out).mono ?_); rintro e w2 ⟨v, rfl, hv, hy⟩; exact hK.out _ _ ⟨hv.val, trivial⟩ hy)
            · (intro V B A W hE hd; replace hE := Ext.trans (Ext.drew (Ext.refl _)) hE; obtain ⟨f4, -⟩ := hd; have r4 := f4.rel; simp only [List.getD_cons_zero, List.getD_cons_succ] at r4; obtain ⟨e4, -⟩ := r4; have h0 := cell_ext hE dc2; have h1 := cell_ext hE dc3; intro K hK; simp only [putL, List.getD_cons_zero, List.getD_cons_succ, Act.put, List.setIfInBounds_toArray, List.set_cons_zero, List.set_cons_succ, e4] at hK ⊢; rw [if_pos (by rfl)]; go_simp; exact hK.out _ _ ⟨rfl, trivial⟩ (Ext.refl _))
            · (intro V B A W hE hd; replace hE := Ext.trans (Ext.drew (Ext.refl _)) hE; obtain ⟨f4, -⟩ := hd; have r4 := f4.rel; simp only [List.getD_cons_zero, List.getD_cons_succ] at r4; obtain ⟨e4, -⟩ := r4; have h0 := cell_ext hE dc4; have h1 := cell_ext hE dc5; intro K hK; simp only [putL, List.getD_cons_zero, List.getD_cons_succ, Act.put, List.setIfInBounds_toArray, List.set_cons_zero, List.set_cons_succ, e4] at hK ⊢; rw [if_pos (by rfl)]; go_simp; exact hK.out _ _ ⟨rfl, trivial⟩ (Ext.refl _))
            · (intro V B A W hE hd; replace hE := Ext.trans (Ext.drew (Ext.refl _)) hE; obtain ⟨f4, f8, f9, -⟩ := hd; have r4 := f4.rel; simp only [List.getD_cons_zero, List.getD_cons_succ] at r4; obtain ⟨e4, -⟩ := r4; have r8 := f8.rel; simp only [List.getD_cons_zero, List.getD_cons_succ] at r8; obtain ⟨e8, -⟩ := r8; have r9 := f9.rel; simp only [List.getD_cons_zero, List.getD_cons_succ] at r9; obtain ⟨e9, -⟩ := r9; intro K hK; simp only [putL, List.getD_cons_zero, List.getD_cons_succ, Act.put, List.setIfInBounds_toArray, List.set_cons_zero, List.set_cons_succ, e4, e8, e9] at hK ⊢; rw [if_pos (by rfl)]; go_simp; (with_reducible refine (calc_mul pc _ (KC.out.ext hE) (Vb.out.ext hE) (Vd.out.ext hE) Lb.out Ld.out Lm2.out).mono ?_); rintro e w2 ⟨v, rfl, hv, hy⟩; exact hK.out _ _ ⟨hv.val, trivial⟩ hy)
            · (intro V B A W hE hd; replace hE := Ext.trans (Ext.drew (Ext.refl _)) hE; obtain ⟨f4, f7, f10, -⟩ := hd; have r4 := f4.rel; simp only [List.getD_cons_zero, List.getD_cons_succ] at r4; obtain ⟨e4, -⟩ := r4; have r7 := f7.rel; simp only [List.getD_cons_zero, List.getD_cons_succ] at r7; obtain ⟨b7, -⟩ := r7; have r10 := f10.rel; simp only [List.getD_cons_zero, List.getD_cons_succ] at r10; obtain ⟨b10, -⟩ := r10; intro K hK; simp only [putL, List.getD_cons_zero, List.getD_cons_succ, Act.put, List.setIfInBounds_toArray, List.set_cons_zero, List.set_cons_succ, e4] at hK ⊢; rw [if_pos (by rfl)]; go_simp; (with_reducible refine (calc_cmp pc _ (KC.out.ext hE) (BigV.ext b7 f7.e2) (BigV.ext b10 f10.e2) Lm1.out Lm2.out).mono ?_); rintro e w2 ⟨rfl, hy⟩; exact hK.out _ _ ⟨by first | rfl | rw [HO4.out], trivial⟩ hy)
            · (intro V B A W hE hd; replace hE := Ext.trans (Ext.drew (Ext.refl _)) hE; obtain ⟨f4, -⟩ := hd; have r4 := f4.rel; simp only [List.getD_cons_zero, List.getD_cons_succ] at r4; obtain ⟨e4, -⟩ := r4; intro K hK; simp only [putL, List.getD_cons_zero, List.getD_cons_succ, Act.put, List.setIfInBounds_toArray, List.set_cons_zero, List.set_cons_succ, e4] at hK ⊢; rw [if_pos (by rfl)]; go_simp; exact hK.out _ _ ⟨rfl, trivial⟩ (Ext.refl _))
            · (intro V B A W hE hd; replace hE := Ext.trans (Ext.drew (Ext.refl _)) hE; obtain ⟨f4, f11, f12, -⟩ := hd; have r4 := f4.rel; simp only [List.getD_cons_zero, List.getD_cons_succ] at r4; obtain ⟨e4, -⟩ := r4; have r11 := f11.rel; simp only [List.getD_cons_zero, List.getD_cons_succ] at r11; obtain ⟨e11, -⟩ := r11; have r12 := f12.rel; simp only [List.getD_cons_zero, List.getD_cons_succ] at r12; obtain ⟨e12, -⟩ := r12; intro K hK; simp only [putL, List.getD_cons_zero, List.getD_cons_succ, Act.put, List.setIfInBounds_toArray, List.set_cons_zero, List.set_cons_succ, e4, e11, e12] at hK ⊢; rw [if_pos (by rfl)]; go_simp; exact hK.out _ _ ⟨rfl, trivial⟩ (Ext.refl _))
            · (intro V B A W hE hd; replace hE := Ext.trans (Ext.drew (Ext.refl _)) hE; obtain ⟨f4, f13, -⟩ := hd; have r4 := f4.rel; simp only [List.getD_cons_zero, List.getD_cons_succ] at r4; obtain ⟨e4, -⟩ := r4; have r13 := f13.rel; simp only [List.getD_cons_zero, List.getD_cons_succ] at r13; obtain ⟨e13, -⟩ := r13; intro K hK; simp only [putL, List.getD_cons_zero, List.getD_cons_succ, Act.put, List.setIfInBounds_toArray, List.set_cons_zero, List.set_cons_succ, e4, e13] at hK ⊢; go_simp; exact hK.out _ _ ⟨rfl, trivial⟩ (Ext.refl _))
          case fin17 =>
            intro V B A w3 hd hp hx3
            replace hx3 := Ext.trans (Ext.drew (Ext.refl _)) hx3
            obtain ⟨f2, f3, f4, f5, f6, f7, f8, f9, f10, f11, f12, f13, f14, -⟩ := hd
            have r14 := f14.rel
            simp only [List.getD_cons_zero, List.getD_cons_succ] at r14
            obtain ⟨e14, -⟩ := r14
            simp only [putL, List.getD_cons_zero, List.getD_cons_succ, Act.put, List.setIfInBounds_toArray, List.set_cons_zero, List.set_cons_succ, e14]
            go_wp2_with fail
            go_meet
            exact ⟨rfl, hx3⟩
        · have u1 : decide (0 < p) = false := by rw [hpp]; simpa using hdp
          clear hdp hpp
          have dc0 : wc.cell? ⟨w.heap.size, 0, none⟩ = some (.bool na) := Ka.out.cell (i := 0) rfl
          have dc1 : wc.cell? ⟨w.heap.size, 1, none⟩ = some (.slice aa qa ca) := Ka.out.cell (i := 1) rfl
          have dc2 : wc.cell? ⟨w.heap.size + 1, 0, none⟩ = some (.bool nb) := Kb.out.cell (i := 0) rfl
          have dc3 : wc.cell? ⟨w.heap.size + 1, 1, none⟩ = some (.slice ab qb cb) := Kb.out.cell (i := 1) rfl
          have dc4 : wc.cell? ⟨w.heap.size + 2, 0, none⟩ = some (.bool nd) := Kd.out.cell (i := 0) rfl
          have dc5 : wc.cell? ⟨w.heap.size + 2, 1, none⟩ = some (.slice ad qd cd) := Kd.out.cell (i := 1) rfl
          refine wp_region_begin (S := (fun w' => w'.cell? ⟨w.heap.size, 0, none⟩ = some (.bool na) ∧ w'.cell? ⟨w.heap.size, 1, none⟩ = some (.slice aa qa ca) ∧ w'.cell? ⟨w.heap.size + 1, 0, none⟩ = some (.bool nb) ∧ w'.cell? ⟨w.heap.size + 1, 1, none⟩ = some (.slice ab qb cb) ∧ w'.cell? ⟨w.heap.size + 2, 0, none⟩ = some (.bool nd) ∧ w'.cell? ⟨w.heap.size + 2, 1, none⟩ = some (.slice ad qd cd))) 15 (false :: false :: false :: false :: false :: false :: false :: false :: false :: false :: false :: false :: false :: false :: false :: []) (by kernel_rfl) (by kernel_rfl) ?_ (fun hHeld => ?_)
          · exact ⟨dc0, dc1, dc2, dc3, dc4, dc5⟩
          refine wpAnyH_takeD (i := 0) (oi := _) (v := ?_) (some 142) rfl (by kernel_rfl) (by kernel_rfl) (by kernel_rfl) (by kernel_rfl) (fun _ _ _ h => h) (Or.inl ⟨by rfl, ?_⟩) (by assumption) ?_
          rotate_left
          · (intro w hSw; (try dsimp only at hSw); (try go_simp); (try with_reducible rfl))
          (try simp only [Act.put, List.getElem_toArray, List.getElem_cons_succ, List.getElem_cons_zero, List.setIfInBounds_toArray, List.set_cons_zero, List.set_cons_succ])
          refine wpAnyH_takeD (i := 1) (oi := _) (v := ?_) (some 143) rfl (by kernel_rfl) (by kernel_rfl) (by kernel_rfl) (by kernel_rfl) (fun _ _ _ h => h) (Or.inl ⟨by rfl, ?_⟩) (by assumption) ?_
          rotate_left
          · (intro w hSw; (try dsimp only at hSw); (try go_simp); (try with_reducible rfl))
          (try simp only [Act.put, List.getElem_toArray, List.getElem_cons_succ, List.getElem_cons_zero, List.setIfInBounds_toArray, List.set_cons_zero, List.set_cons_succ])
          refine wpAnyH_steps (2 :: 3 :: 4 :: 5 :: 6 :: 7 :: 8 :: 9 :: 10 :: 11 :: 12 :: 13 :: 14 :: []) ((fun _ _ _ => True) ::
              (fun _ _ _ => True) ::
              (fun v _ _ => v = .int .i64 p ∧ True) ::
              (fun v _ _ => v = .bool false ∧ True) ::
              (fun v _ _ => v = .bool false ∧ True) ::
              (fun v _ _ => v = undef ∧ True) ::
              (fun v _ _ => v = undef ∧ True) ::
              (fun v _ _ => v = undef ∧ True) ::
              (fun v _ _ => v = undef ∧ True) ::
              (fun v _ _ => v = undef ∧ True) ::
              (fun v _ _ => v = undef ∧ True) ::
              (fun v _ _ => v = undef ∧ True) ::
              (fun v _ _ => v = undef ∧ True) ::
              (fun v _ _ => v = undef ∧ True) ::
              (fun v _ _ => v = .bool false ∧ True) ::
              []) (some 142 :: some 143 :: some 144 :: some 145 :: some 146 :: some 147 :: some 148 :: some 149 :: some 150 :: some 151 :: some 152 :: some 153 :: some 154 :: some 155 :: some 156 :: []) ([] :: [] :: [] :: [2] :: [3] :: [4] :: [4] :: [4, 5, 6] :: [4] :: [4] :: [4, 8, 9] :: [4, 7, 10] :: [4] :: [4, 11, 12] :: [4, 13] :: []) (by kernel_rfl) (fun w3 hy => ?_) ?steps18 ?fin18
          · exact ⟨cell_ext (Ext.trans (Ext.drew (Ext.refl _)) hy) dc0, cell_ext (Ext.trans (Ext.drew (Ext.refl _)) hy) dc1, cell_ext (Ext.trans (Ext.drew (Ext.refl _)) hy) dc2, cell_ext (Ext.trans (Ext.drew (Ext.refl _)) hy) dc3, cell_ext (Ext.trans (Ext.drew (Ext.refl _)) hy) dc4, cell_ext (Ext.trans (Ext.drew (Ext.refl _)) hy) dc5⟩
          case steps18 =>
            refine StepsF.skip ?_
            refine StepsF.skip ?_
            refine StepsF.take ?_ ?_
            rotate_left
            refine StepsF.take ?_ ?_
            rotate_left
            refine StepsF.take ?_ ?_
            rotate_left
            refine StepsF.take ?_ ?_
            rotate_left
            refine StepsF.take ?_ ?_
            rotate_left
            refine StepsF.take ?_ ?_
            rotate_left
            refine StepsF.take ?_ ?_
            rotate_left
            refine StepsF.take ?_ ?_
            rotate_left
            refine StepsF.take ?_ ?_
            rotate_left
            refine StepsF.take ?_ ?_
            rotate_left
            refine StepsF.take ?_ ?_
            rotate_left
            refine StepsF.take ?_ ?_
            rotate_left
            refine StepsF.take ?_ ?_
            rotate_left
            exact StepsF.nil
            · (intro V B A W hE hd; replace hE := Ext.trans (Ext.drew (Ext.refl _)) hE; intro K hK; simp only [putL, List.getD_cons_zero, List.getD_cons_succ, Act.put, List.setIfInBounds_toArray, List.set_cons_zero, List.set_cons_succ] at hK ⊢; go_simp; (with_reducible refine (calc_cmp pc _ (KC.out.ext hE) (Vd.out.ext hE) (BigV.zero _) Ld.out L0.out).mono ?_); rintro e w2 ⟨rfl, hy⟩; exact hK.out _ _ ⟨by first | rfl | rw [HP.out], trivial⟩ hy)
            · (intro V B A W hE hd; replace hE := Ext.trans (Ext.drew (Ext.refl _)) hE; obtain ⟨f2, -⟩ := hd; have r2 := f2.rel; simp only [List.getD_cons_zero, List.getD_cons_succ] at r2; obtain ⟨e2, -⟩ := r2; intro K hK; simp only [putL, List.getD_cons_zero, List.getD_cons_succ, Act.put, List.setIfInBounds_toArray, List.set_cons_zero, List.set_cons_succ, e2] at hK ⊢; go_simp; exact hK.out _ _ ⟨rfl, trivial⟩ (Ext.refl _))
            · (intro V B A W hE hd; replace hE := Ext.trans (Ext.drew (Ext.refl _)) hE; obtain ⟨f3, -⟩ := hd; have r3 := f3.rel; simp only [List.getD_cons_zero, List.getD_cons_succ] at r3; obtain ⟨e3, -⟩ := r3; intro K hK; simp only [putL, List.getD_cons_zero, List.getD_cons_succ, Act.put, List.setIfInBounds_toArray, List.set_cons_zero, List.set_cons_succ, e3] at hK ⊢; go_simp; exact hK.out _ _ ⟨rfl, trivial⟩ (Ext.refl _))
            · (intro V B A W hE hd; replace hE := Ext.trans (Ext.drew (Ext.refl _)) hE; obtain ⟨f4, -⟩ := hd; have r4 := f4.rel; simp only [List.getD_cons_zero, List.getD_cons_succ] at r4; obtain ⟨e4, -⟩ := r4; intro K hK; simp only [putL, List.getD_cons_zero, List.getD_cons_succ, Act.put, List.setIfInBounds_toArray, List.set_cons_zero, List.set_cons_succ, e4] at hK ⊢; exact hK.out _ _ ⟨rfl, trivial⟩ (Ext.refl _))
            · (intro V B A W hE hd; replace hE := Ext.trans (Ext.drew (Ext.refl _)) hE; obtain ⟨f4, -⟩ := hd; have r4 := f4.rel; simp only [List.getD_cons_zero, List.getD_cons_succ] at r4; obtain ⟨e4, -⟩ := r4; intro K hK; simp only [putL, List.getD_cons_zero, List.getD_cons_succ, Act.put, List.setIfInBounds_toArray, List.set_cons_zero, List.set_cons_succ, e4] at hK ⊢; exact hK.out _ _ ⟨rfl, trivial⟩ (Ext.refl _))
            · (intro V B A W hE hd; replace hE := Ext.trans (Ext.drew (Ext.refl _)) hE; obtain ⟨f4, f5, f6, -⟩ := hd; have r4 := f4.rel; simp only [List.getD_cons_zero, List.getD_cons_succ] at r4; obtain ⟨e4, -⟩ := r4; have r5 := f5.rel; simp only [List.getD_cons_zero, List.getD_cons_succ] at r5; obtain ⟨e5, -⟩ := r5; have r6 := f6.rel; simp only [List.getD_cons_zero, List.getD_cons_succ] at r6; obtain ⟨e6, -⟩ := r6; intro K hK; simp only [putL, List.getD_cons_zero, List.getD_cons_succ, Act.put, List.setIfInBounds_toArray, List.set_cons_zero, List.set_cons_succ, e4, e5, e6] at hK ⊢; exact hK.out _ _ ⟨rfl, trivial⟩ (Ext.refl _))
            · (intro V B A W hE hd; replace hE := Ext.trans (Ext.drew (Ext.refl _)) hE; obtain ⟨f4, -⟩ := hd; have r4 := f4.rel; simp only [List.getD_cons_zero, List.getD_cons_succ] at r4; obtain ⟨e4, -⟩ := r4; intro K hK; simp only [putL, List.getD_cons_zero, List.getD_cons_succ, Act.put, List.setIfInBounds_toArray, List.set_cons_zero, List.set_cons_succ, e4] at hK ⊢; exact hK.out _ _ ⟨rfl, trivial⟩ (Ext.refl _))
            · (intro V B A W hE hd; replace hE := Ext.trans (Ext.drew (Ext.refl _)) hE; obtain ⟨f4, -⟩ := hd; have r4 := f4.rel; simp only [List.getD_cons_zero, List.getD_cons_succ] at r4; obtain ⟨e4, -⟩ := r4; intro K hK; simp only [putL, List.getD_cons_zero, List.getD_cons_succ, Act.put, List.setIfInBounds_toArray, List.set_cons_zero, List.set_cons_succ, e4] at hK ⊢; exact hK.out _ _ ⟨rfl, trivial⟩ (Ext.refl _))
            · (intro V B A W hE hd; replace hE := Ext.trans (Ext.drew (Ext.refl _)) hE; obtain ⟨f4, f8, f9, -⟩ := hd; have r4 := f4.rel; simp only [List.getD_cons_zero, List.getD_cons_succ] at r4; obtain ⟨e4, -⟩ := r4; have r8 := f8.rel; simp only [List.getD_cons_zero, List.getD_cons_succ] at r8; obtain ⟨e8, -⟩ := r8; have r9 := f9.rel; simp only [List.getD_cons_zero, List.getD_cons_succ] at r9; obtain ⟨e9, -⟩ := r9; intro K hK; simp only [putL, List.getD_cons_zero, List.getD_cons_succ, Act.put, List.setIfInBounds_toArray, List.set_cons_zero, List.set_cons_succ, e4, e8, e9] at hK ⊢; exact hK.out _ _ ⟨rfl, trivial⟩ (Ext.refl _))
            · (intro V B A W hE hd; replace hE := Ext.trans (Ext.drew (Ext.refl _)) hE; obtain ⟨f4, f7, f10, -⟩ := hd; have r4 := f4.rel; simp only [List.getD_cons_zero, List.getD_cons_succ] at r4; obtain ⟨e4, -⟩ := r4; have r7 := f7.rel; simp only [List.getD_cons_zero, List.getD_cons_succ] at r7; obtain ⟨e7, -⟩ := r7; have r10 := f10.rel; simp only [List.getD_cons_zero, List.getD_cons_succ] at r10; obtain ⟨e10, -⟩ := r10; intro K hK; simp only [putL, List.getD_cons_zero, List.getD_cons_succ, Act.put, List.setIfInBounds_toArray, List.set_cons_zero, List.set_cons_succ, e4, e7, e10] at hK ⊢; exact hK.out _ _ ⟨rfl, trivial⟩ (Ext.refl _))
            · (intro V B A W hE hd; replace hE := Ext.trans (Ext.drew (Ext.refl _)) hE; obtain ⟨f4, -⟩ := hd; have r4 := f4.rel; simp only [List.getD_cons_zero, List.getD_cons_succ] at r4; obtain ⟨e4, -⟩ := r4; intro K hK; simp only [putL, List.getD_cons_zero, List.getD_cons_succ, Act.put, List.setIfInBounds_toArray, List.set_cons_zero, List.set_cons_succ, e4] at hK ⊢; exact hK.out _ _ ⟨rfl, trivial⟩ (Ext.refl _))
            · (intro V B A W hE hd; replace hE := Ext.trans (Ext.drew (Ext.refl _)) hE; obtain ⟨f4, f11, f12, -⟩ := hd; have r4 := f4.rel; simp only [List.getD_cons_zero, List.getD_cons_succ] at r4; obtain ⟨e4, -⟩ := r4; have r11 := f11.rel; simp only [List.getD_cons_zero, List.getD_cons_succ] at r11; obtain ⟨e11, -⟩ := r11; have r12 := f12.rel; simp only [List.getD_cons_zero, List.getD_cons_succ] at r12; obtain ⟨e12, -⟩ := r12; intro K hK; simp only [putL, List.getD_cons_zero, List.getD_cons_succ, Act.put, List.setIfInBounds_toArray, List.set_cons_zero, List.set_cons_succ, e4, e11, e12] at hK ⊢; exact hK.out _ _ ⟨rfl, trivial⟩ (Ext.refl _))
            · (intro V B A W hE hd; replace hE := Ext.trans (Ext.drew (Ext.refl _)) hE; obtain ⟨f4, f13, -⟩ := hd; have r4 := f4.rel; simp only [List.getD_cons_zero, List.getD_cons_succ] at r4; obtain ⟨e4, -⟩ := r4; have r13 := f13.rel; simp only [List.getD_cons_zero, List.getD_cons_succ] at r13; obtain ⟨e13, -⟩ := r13; intro K hK; simp only [putL, List.getD_cons_zero, List.getD_cons_succ, Act.put, List.setIfInBounds_toArray, List.set_cons_zero, List.set_cons_succ, e4, e13] at hK ⊢; go_simp; exact hK.out _ _ ⟨rfl, trivial⟩ (Ext.refl _))
          case fin18 =>
            intro V B A w3 hd hp hx3
            replace hx3 := Ext.trans (Ext.drew (Ext.refl _)) hx3
            obtain ⟨f2, f3, f4, f5, f6, f7, f8, f9, f10, f11, f12, f13, f14, -⟩ := hd
            have r14 := f14.rel
            simp only [List.getD_cons_zero, List.getD_cons_succ] at r14
            obtain ⟨e14, -⟩ := r14
            simp only [putL, List.getD_cons_zero, List.getD_cons_succ, Act.put, List.setIfInBounds_toArray, List.set_cons_zero, List.set_cons_succ, e14]
            go_wp2_with fail
            go_meet
            exact ⟨rfl, hx3⟩
      case rest =>
      obtain ⟨rfl, hy⟩ := hcut
      replace hx := hx.trans hy
      replace Ka := Lib.hid (Ka.out.ext hy)
      replace Kb := Lib.hid (Kb.out.ext hy)
      replace Kd := Lib.hid (Kd.out.ext hy)
      replace Va := Lib.hid (Va.out.ext hy)
      replace Vb := Lib.hid (Vb.out.ext hy)
      replace Vd := Lib.hid (Vd.out.ext hy)
      replace KC := Lib.hid (KC.out.ext hy)
      replace HPr := Lib.hid (HPr.out.ext hy)
      clear hy
      have kc := KC.out.cell (i := 0) (v := .bool false) rfl
      go_wp2_with fail
      go_ret
      exact ⟨rfl, hx⟩
theorem law_Laws (na nb nd : Bool) (aa ab ad : Option Addr) (ca cb cd : Nat) (l m k : List Int) (w : World) (ha : Ints w aa ca l) (hb : Ints w ab cb m) (hd : Ints w ad cd k) :
    Calls Tryd.prog 11 #[.agg #[.bool na, .slice aa l.length ca], .agg #[.bool nb, .slice ab m.length cb], .agg #[.bool nd, .slice ad k.length cd]] w fun e w' => e = .returned (.bool true) ∧ Ext w w' := by
  cases hv : ([⟨na, aa, ca, l⟩, ⟨nb, ab, cb, m⟩, ⟨nd, ad, cd, k⟩] : List BigA).any (fun x => !okA x)
  · have hv' : ∀ x ∈ ([⟨na, aa, ca, l⟩, ⟨nb, ab, cb, m⟩, ⟨nd, ad, cd, k⟩] : List BigA), okA x = true := fun x hx => by
      have := List.any_eq_false.1 hv x hx
      simpa using this
    exact law_Laws1 na nb nd aa ab ad _ _ _ ca cb cd l m k w ha hb hd rfl rfl rfl hv'
  · exact law_Laws0 na nb nd aa ab ad _ _ _ ca cb cd l m k w ha hb hd rfl rfl rfl hv
end Go.Proofs.YtpaaanbcadlhiaaDoor
