import Derived.Test.YtpaaanbcadlhiaaDoorPLaw0
import Derived.Test.YtpaaanbcadlhiaaDoorPRef9
import Derived.Test.YtpaaanbcadlhiaaDoorPRef10
namespace Go.Proofs.YtpaaanbcadlhiaaDoor
open Go.RowKit Go BigFrame
set_option maxRecDepth 100000
set_option linter.unusedSimpArgs false
set_option linter.unusedVariables false

section
variable {n1 n2 : Bool} {a b : Option Addr} {ca cb : Nat} {l m : List Int} {w : World}
theorem both_Int (h : Ints w a ca l) : ∃ v ok E, ∀ W, Ext w W → Calls Tryd.prog 25 #[.agg #[.bool n1, .slice a l.length ca]] W (IntP v ok E W) ∧ Calls Tryd.prog 29 #[.agg #[.bool n1, .slice a l.length ca]] W (IntP v ok E W) := by
  by_cases hb : chkB n1 l = true
  · exact ⟨_, _, 0, fun W hx => ⟨nat_Int_ok n1 a ca l W (h.ext hx) hb, ref_Int_ok n1 a ca l W (h.ext hx) hb⟩⟩
  · have hb' : chkB n1 l = false := by simpa using hb
    exact ⟨0, false, 90, fun W hx => ⟨nat_Int_bad n1 a ca l W (h.ext hx) hb', ref_Int_bad n1 a ca l W (h.ext hx) hb'⟩⟩
theorem both_Cmp (h : Ints w a ca l) (k : Ints w b cb m) : ∃ c E : Int, ∀ W, Ext w W → (Calls Tryd.prog 30 #[.agg #[.bool n1, .slice a l.length ca], .agg #[.bool n2, .slice b m.length cb]] W fun e w' => e = .returned (.tuple #[.int .i64 c, .int .i64 E]) ∧ Ext W w') ∧
    (Calls Tryd.prog 31 #[.agg #[.bool n1, .slice a l.length ca], .agg #[.bool n2, .slice b m.length cb]] W fun e w' => e = .returned (.tuple #[.int .i64 c, .int .i64 E]) ∧ Ext W w') := by
  by_cases hb : (chkB n1 l && chkB n2 m) = true
  · obtain ⟨h1, h2⟩ := (Bool.and_eq_true _ _).mp hb
    exact ⟨_, 0, fun W hx => ⟨nat_Cmp_ok n1 n2 a b ca cb l m W (h.ext hx) (k.ext hx) h1 h2, ref_Cmp_ok n1 n2 a b ca cb l m W (h.ext hx) (k.ext hx) h1 h2⟩⟩
  · have hb' : (chkB n1 l && chkB n2 m) = false := by simpa using hb
    exact ⟨0, 90, fun W hx => ⟨nat_Cmp_bad n1 n2 a b ca cb l m W (h.ext hx) (k.ext hx) hb', ref_Cmp_bad n1 n2 a b ca cb l m W (h.ext hx) (k.ext hx) hb'⟩⟩
end

set_option maxHeartbeats 2000000 in
theorem law_NSpec0 (n : Int) (na nb : Bool) (aa ab : Option Addr) (qa qb ca cb : Nat) (l m : List Int) (w : World) (hn : -9223372036854775808 ≤ n ∧ n ≤ 9223372036854775807) (ha : Ints w aa ca l) (hb : Ints w ab cb m) (la : l.length = qa) (lb : m.length = qb) (hf : fewN qa = false) :
    Calls Tryd.prog 6 #[.int .i64 n, .agg #[.bool na, .slice aa qa ca], .agg #[.bool nb, .slice ab qb cb]] w fun e w' => e = .returned (.bool true) ∧ Ext w w' := by
  have FA := Lib.hid (fun W => ref_Few na aa ca l W)
  have FB := Lib.hid (fun W => ref_Few nb ab cb m W)
  rw [la] at FA
  rw [lb] at FB
  rw [hf] at FA
  clear hf la lb ha hb hn
  have hx : Ext w (((w).alloc (.cells #[.bool na, .slice aa qa ca] 24)).alloc (.cells #[.bool nb, .slice ab qb cb] 24)) := (by repeat (first | with_reducible exact Ext.refl _ | with_reducible assumption | with_reducible refine Ext.drewN ?_ _ | with_reducible refine Ext.drew ?_ | with_reducible refine Ext.alloc' ?_ _ | with_reducible refine Ext.set ?_ (by dsimp only; omega) _))
  have Ka : Blk (((w).alloc (.cells #[.bool na, .slice aa qa ca] 24)).alloc (.cells #[.bool nb, .slice ab qb cb] 24)) (w.heap.size) #[.bool na, .slice aa qa ca] 24 := by have h := (Blk.new0 (w) #[.bool na, .slice aa qa ca] 24).alloc (.cells #[.bool nb, .slice ab qb cb] 24); simpa [Nat.add_assoc] using h
  have Ka := Lib.hid Ka
  have Kb : Blk (((w).alloc (.cells #[.bool na, .slice aa qa ca] 24)).alloc (.cells #[.bool nb, .slice ab qb cb] 24)) (w.heap.size + 1) #[.bool nb, .slice ab qb cb] 24 := by have h := Blk.new0 ((w).alloc (.cells #[.bool na, .slice aa qa ca] 24)) #[.bool nb, .slice ab qb cb] 24; simpa [Nat.add_assoc] using h
  have Kb := Lib.hid Kb
  go_enter Tryd.func6, Tryd.ntmps6
  go_upto_region 1 with fail
  try simp only [Nat.add_assoc, Nat.reduceAdd, Nat.add_zero]
  generalize ((w).alloc (.cells #[.bool na, .slice aa qa ca] 24)).alloc (.cells #[.bool nb, .slice ab qb cb] 24) = x1 at *
  go_wp2_with fail
  with_reducible refine (law09Sane _).mono ?_
  rintro e x2 ⟨rfl, hy⟩
  have hx := hx.trans hy
  have Ka := Lib.hid (Ka.out.ext hy)
  have Kb := Lib.hid (Kb.out.ext hy)
  clear hy
  have ca0 := Ka.out.cell (i := 0) (v := .bool na) rfl
  have ca1 := Ka.out.cell (i := 1) (v := .slice aa qa ca) rfl
  go_wp2_with fail
  with_reducible refine (FA.out _).mono ?_
  rintro e x3 ⟨rfl, hy⟩
  have hx := hx.trans hy
  have Ka := Lib.hid (Ka.out.ext hy)
  have Kb := Lib.hid (Kb.out.ext hy)
  clear hy
  clear ca0 ca1
  go_wp2_with fail
  go_ret
  exact ⟨rfl, hx⟩
set_option maxHeartbeats 2000000 in
theorem law_NSpec1 (n : Int) (na nb : Bool) (aa ab : Option Addr) (qa qb ca cb : Nat) (l m : List Int) (w : World) (hn : -9223372036854775808 ≤ n ∧ n ≤ 9223372036854775807) (ha : Ints w aa ca l) (hb : Ints w ab cb m) (la : l.length = qa) (lb : m.length = qb) (hf : fewN qa = true ∧ fewN qb = false) :
    Calls Tryd.prog 6 #[.int .i64 n, .agg #[.bool na, .slice aa qa ca], .agg #[.bool nb, .slice ab qb cb]] w fun e w' => e = .returned (.bool true) ∧ Ext w w' := by
  have FA := Lib.hid (fun W => ref_Few na aa ca l W)
  have FB := Lib.hid (fun W => ref_Few nb ab cb m W)
  rw [la] at FA
  rw [lb] at FB
  rw [hf.1] at FA
  rw [hf.2] at FB
  clear hf la lb ha hb hn
  have hx : Ext w (((w).alloc (.cells #[.bool na, .slice aa qa ca] 24)).alloc (.cells #[.bool nb, .slice ab qb cb] 24)) := (by repeat (first | with_reducible exact Ext.refl _ | with_reducible assumption | with_reducible refine Ext.drewN ?_ _ | with_reducible refine Ext.drew ?_ | with_reducible refine Ext.alloc' ?_ _ | with_reducible refine Ext.set ?_ (by dsimp only; omega) _))
  have Ka : Blk (((w).alloc (.cells #[.bool na, .slice aa qa ca] 24)).alloc (.cells #[.bool nb, .slice ab qb cb] 24)) (w.heap.size) #[.bool na, .slice aa qa ca] 24 := by have h := (Blk.new0 (w) #[.bool na, .slice aa qa ca] 24).alloc (.cells #[.bool nb, .slice ab qb cb] 24); simpa [Nat.add_assoc] using h
  have Ka := Lib.hid Ka
  have Kb : Blk (((w).alloc (.cells #[.bool na, .slice aa qa ca] 24)).alloc (.cells #[.bool nb, .slice ab qb cb] 24)) (w.heap.size + 1) #[.bool nb, .slice ab qb cb] 24 := by have h := Blk.new0 ((w).alloc (.cells #[.bool na, .slice aa qa ca] 24)) #[.bool nb, .slice ab qb cb] 24; simpa [Nat.add_assoc] using h
  have Kb := Lib.hid Kb
  go_enter Tryd.func6, Tryd.ntmps6
  go_upto_region 1 with fail
  try simp only [Nat.add_assoc, Nat.reduceAdd, Nat.add_zero]
  generalize ((w).alloc (.cells #[.bool na, .slice aa qa ca] 24)).alloc (.cells #[.bool nb, .slice ab qb cb] 24) = x4 at *
  go_wp2_with fail
  with_reducible refine (law09Sane _).mono ?_
  rintro e x5 ⟨rfl, hy⟩
  have hx := hx.trans hy
  have Ka := Lib.hid (Ka.out.ext hy)
  have Kb := Lib.hid (Kb.out.ext hy)
  clear hy
  have ca0 := Ka.out.cell (i := 0) (v := .bool na) rfl
  have ca1 := Ka.out.cell (i := 1) (v := .slice aa qa ca) rfl
  go_wp2_with fail
  with_reducible refine (FA.out _).mono ?_
  rintro e x6 ⟨rfl, hy⟩
  have hx := hx.trans hy
  have Ka := Lib.hid (Ka.out.ext hy)
  have Kb := Lib.hid (Kb.out.ext hy)
  clear hy
  clear ca0 ca1
  have cb0 := Kb.out.cell (i := 0) (v := .bool nb) rfl
  have cb1 := Kb.out.cell (i := 1) (v := .slice ab qb cb) rfl
  go_wp2_with fail
  with_reducible refine (FB.out _).mono ?_
  rintro e x7 ⟨rfl, hy⟩
  have hx := hx.trans hy
  have Ka := Lib.hid (Ka.out.ext hy)
  have Kb := Lib.hid (Kb.out.ext hy)
  clear hy
  go_wp2_with fail
  go_ret
  exact ⟨rfl, hx⟩
set_option maxHeartbeats 2000000 in
theorem law_NSpec2 (n : Int) (na nb : Bool) (aa ab : Option Addr) (qa qb ca cb : Nat) (l m : List Int) (w : World) (hn : -9223372036854775808 ≤ n ∧ n ≤ 9223372036854775807) (ha : Ints w aa ca l) (hb : Ints w ab cb m) (la : l.length = qa) (lb : m.length = qb) (hf : fewN qa = true ∧ fewN qb = true) :
    Calls Tryd.prog 6 #[.int .i64 n, .agg #[.bool na, .slice aa qa ca], .agg #[.bool nb, .slice ab qb cb]] w fun e w' => e = .returned (.bool true) ∧ Ext w w' := by
  have FA := Lib.hid (fun W => ref_Few na aa ca l W)
  have FB := Lib.hid (fun W => ref_Few nb ab cb m W)
  rw [la] at FA
  rw [lb] at FB
  rw [hf.1] at FA
  rw [hf.2] at FB
  obtain ⟨iv, iok, iE, hI⟩ := both_Int (n1 := na) ha
  rw [la] at hI
  have HINT := Lib.hid hI
  obtain ⟨cc, cE, hC⟩ := both_Cmp (n1 := na) (n2 := nb) ha hb
  rw [la, lb] at hC
  have HCMP := Lib.hid hC
  clear hI hC
  have HM1 := Lib.hid (fun W => nat_Make n W hn)
  have HM2 := Lib.hid (fun W => ref_Make n W hn)
  have HK1 := fun W (hx : Ext w W) => nat_Check na aa ca l W (ha.ext hx)
  have HK2 := fun W (hx : Ext w W) => ref_Check na aa ca l W (ha.ext hx)
  rw [la] at HK1 HK2
  obtain ⟨kE, hkE⟩ : ∃ k, errN (chkB na l) = k := ⟨_, rfl⟩
  rw [hkE] at HK1 HK2
  have HK1 := Lib.hid HK1
  have HK2 := Lib.hid HK2
  clear hkE
  clear hf la lb ha hb hn
  have hx : Ext w (((w).alloc (.cells #[.bool na, .slice aa qa ca] 24)).alloc (.cells #[.bool nb, .slice ab qb cb] 24)) := (by repeat (first | with_reducible exact Ext.refl _ | with_reducible assumption | with_reducible refine Ext.drewN ?_ _ | with_reducible refine Ext.drew ?_ | with_reducible refine Ext.alloc' ?_ _ | with_reducible refine Ext.set ?_ (by dsimp only; omega) _))
  have Ka : Blk (((w).alloc (.cells #[.bool na, .slice aa qa ca] 24)).alloc (.cells #[.bool nb, .slice ab qb cb] 24)) (w.heap.size) #[.bool na, .slice aa qa ca] 24 := by have h := (Blk.new0 (w) #[.bool na, .slice aa qa ca] 24).alloc (.cells #[.bool nb, .slice ab qb cb] 24); simpa [Nat.add_assoc] using h
  have Ka := Lib.hid Ka
  have Kb : Blk (((w).alloc (.cells #[.bool na, .slice aa qa ca] 24)).alloc (.cells #[.bool nb, .slice ab qb cb] 24)) (w.heap.size + 1) #[.bool nb, .slice ab qb cb] 24 := by have h := Blk.new0 ((w).alloc (.cells #[.bool na, .slice aa qa ca] 24)) #[.bool nb, .slice ab qb cb] 24; simpa [Nat.add_assoc] using h
  have Kb := Lib.hid Kb
  go_enter Tryd.func6, Tryd.ntmps6
  go_upto_region 1 with fail
  try simp only [Nat.add_assoc, Nat.reduceAdd, Nat.add_zero]
  generalize ((w).alloc (.cells #[.bool na, .slice aa qa ca] 24)).alloc (.cells #[.bool nb, .slice ab qb cb] 24) = x8 at *
  go_wp2_with fail
  with_reducible refine (law09Sane _).mono ?_
  rintro e x9 ⟨rfl, hy⟩
  have hx := hx.trans hy
  have Ka := Lib.hid (Ka.out.ext hy)
  have Kb := Lib.hid (Kb.out.ext hy)
  clear hy
  have ca0 := Ka.out.cell (i := 0) (v := .bool na) rfl
  have ca1 := Ka.out.cell (i := 1) (v := .slice aa qa ca) rfl
  go_wp2_with fail
  with_reducible refine (FA.out _).mono ?_
  rintro e x10 ⟨rfl, hy⟩
  have hx := hx.trans hy
  have Ka := Lib.hid (Ka.out.ext hy)
  have Kb := Lib.hid (Kb.out.ext hy)
  clear hy
  clear ca0 ca1
  have cb0 := Kb.out.cell (i := 0) (v := .bool nb) rfl
  have cb1 := Kb.out.cell (i := 1) (v := .slice ab qb cb) rfl
  go_wp2_with fail
  with_reducible refine (FB.out _).mono ?_
  rintro e x11 ⟨rfl, hy⟩
  have hx := hx.trans hy
  have Ka := Lib.hid (Ka.out.ext hy)
  have Kb := Lib.hid (Kb.out.ext hy)
  clear hy
  clear cb0 cb1
  have ca0 := Ka.out.cell (i := 0) (v := .bool na) rfl
  have ca1 := Ka.out.cell (i := 1) (v := .slice aa qa ca) rfl
  go_wp2_with fail
  with_reducible refine ((HINT.out _ hx).1).mono ?_
  rintro e x12 ⟨rfl, hy⟩
  have hx := hx.trans hy
  have Ka := Lib.hid (Ka.out.ext hy)
  have Kb := Lib.hid (Kb.out.ext hy)
  clear hy
  clear ca0 ca1
  have ca0 := Ka.out.cell (i := 0) (v := .bool na) rfl
  have ca1 := Ka.out.cell (i := 1) (v := .slice aa qa ca) rfl
  go_wp2_with fail
  with_reducible refine ((HINT.out _ hx).2).mono ?_
  rintro e x13 ⟨rfl, hy⟩
  have hx := hx.trans hy
  have Ka := Lib.hid (Ka.out.ext hy)
  have Kb := Lib.hid (Kb.out.ext hy)
  clear hy
  clear ca0 ca1
  have ca0 := Ka.out.cell (i := 0) (v := .bool na) rfl
  have ca1 := Ka.out.cell (i := 1) (v := .slice aa qa ca) rfl
  have cb0 := Kb.out.cell (i := 0) (v := .bool nb) rfl
  have cb1 := Kb.out.cell (i := 1) (v := .slice ab qb cb) rfl
  go_wp2_with fail
  with_reducible refine ((HCMP.out _ hx).1).mono ?_
  rintro e x14 ⟨rfl, hy⟩
  have hx := hx.trans hy
  have Ka := Lib.hid (Ka.out.ext hy)
  have Kb := Lib.hid (Kb.out.ext hy)
  clear hy
  clear ca0 ca1 cb0 cb1
  have ca0 := Ka.out.cell (i := 0) (v := .bool na) rfl
  have ca1 := Ka.out.cell (i := 1) (v := .slice aa qa ca) rfl
  have cb0 := Kb.out.cell (i := 0) (v := .bool nb) rfl
  have cb1 := Kb.out.cell (i := 1) (v := .slice ab qb cb) rfl
  go_wp2_with fail
  with_reducible refine ((HCMP.out _ hx).2).mono ?_
  rintro e x15 ⟨rfl, hy⟩
  have hx := hx.trans hy
  have Ka := Lib.hid (Ka.out.ext hy)
  have Kb := Lib.hid (Kb.out.ext hy)
  clear hy
  clear ca0 ca1 cb0 cb1
  go_upto_region 9 with fail
  have ca0 := Ka.out.cell (i := 0) (v := .bool na) rfl
  have ca1 := Ka.out.cell (i := 1) (v := .slice aa qa ca) rfl
  have hE : Ext x15 x15.drew := (Ext.refl _).drew
  refine wp_region_held_drew (S := (fun w' => w'.cell? ⟨w.heap.size, 0, none⟩ = some (.bool na) ∧ w'.cell? ⟨w.heap.size, 1, none⟩ = some (.slice aa qa ca))) (by kernel_rfl) ?_ (fun hHeld => ?_)
  · (first | exact ⟨cell_ext hy hHeld.1, cell_ext hy hHeld.2⟩ | exact ⟨ca0, ca1⟩ | exact hHeld)
  refine wpAnyH_take (i := 0) (oi := _) (v := ?_) rfl (by kernel_rfl) (by kernel_rfl) (by kernel_rfl) (fun _ _ _ h => h) (Or.inl ⟨by rfl, ?_⟩) (by assumption) ?_
  rotate_left
  · (intro w hSw; (try dsimp only at hSw); (try go_simp); (try with_reducible rfl))
  (try simp only [Act.put, List.getElem_toArray, List.getElem_cons_succ, List.getElem_cons_zero, List.setIfInBounds_toArray, List.set_cons_zero, List.set_cons_succ])
  refine wpAnyH_take (i := 2) (oi := _) (v := ?_) rfl (by kernel_rfl) (by kernel_rfl) (by kernel_rfl) (fun _ _ _ h => h) (Or.inl ⟨by rfl, ?_⟩) (by assumption) ?_
  rotate_left
  · (intro w hSw; (try dsimp only at hSw); (try go_simp); (try with_reducible rfl))
  (try simp only [Act.put, List.getElem_toArray, List.getElem_cons_succ, List.getElem_cons_zero, List.setIfInBounds_toArray, List.set_cons_zero, List.set_cons_succ])
  refine wpAnyH_ready (rs := [1]) (by kernel_rfl) (by simp) ?_
  refine AllReadyH.cons (o := _) rfl (fun K hK => ?_) ?_
  · go_simp
    (with_reducible refine (HM1.out _).mono ?_); rintro e y1 ⟨v1, rfl, hv1, hy⟩; have hE := hE.trans hy
    refine hK.out _ _ ?_ (fun hHeld2 => ?_)
    · (first | exact ⟨cell_ext hy hHeld.1, cell_ext hy hHeld.2⟩ | exact ⟨ca0, ca1⟩ | exact hHeld)
    clear hK K hHeld
    have hHeld := hHeld2
    clear hHeld2
    (try simp only [Act.put, List.getElem_toArray, List.getElem_cons_succ, List.getElem_cons_zero, List.setIfInBounds_toArray, List.set_cons_zero, List.set_cons_succ])
    refine wpAnyH_ready (rs := [3]) (by kernel_rfl) (by simp) ?_
    refine AllReadyH.cons (o := _) rfl (fun K hK => ?_) ?_
    · go_simp
      (with_reducible refine (HM2.out _).mono ?_); rintro e y2 ⟨v2, rfl, hv2, hy⟩; have hE := hE.trans hy; have hv1 := hv1.val.ext hy
      refine hK.out _ _ ?_ (fun hHeld2 => ?_)
      · (first | exact ⟨cell_ext hy hHeld.1, cell_ext hy hHeld.2⟩ | exact ⟨ca0, ca1⟩ | exact hHeld)
      clear hK K hHeld
      have hHeld := hHeld2
      clear hHeld2
      (try simp only [Act.put, List.getElem_toArray, List.getElem_cons_succ, List.getElem_cons_zero, List.setIfInBounds_toArray, List.set_cons_zero, List.set_cons_succ])
      refine wpAnyH_ready (rs := [4]) (by kernel_rfl) (by simp) ?_
      refine AllReadyH.cons (o := _) rfl (fun K hK => ?_) ?_
      · go_simp
        (with_reducible refine (sameT hv1 hv2.val rfl).mono ?_); rintro e y3 ⟨rfl, hy⟩; have hE := hE.trans hy
        refine hK.out _ _ ?_ (fun hHeld2 => ?_)
        · (first | exact ⟨cell_ext hy hHeld.1, cell_ext hy hHeld.2⟩ | exact ⟨ca0, ca1⟩ | exact hHeld)
        clear hK K hHeld
        have hHeld := hHeld2
        clear hHeld2
        (try simp only [Act.put, List.getElem_toArray, List.getElem_cons_succ, List.getElem_cons_zero, List.setIfInBounds_toArray, List.set_cons_zero, List.set_cons_succ])
        refine wpAnyH_take (i := 5) (oi := _) (v := ?_) rfl (by kernel_rfl) (by kernel_rfl) (by kernel_rfl) (fun _ _ _ h => h) (Or.inl ⟨by rfl, ?_⟩) (by assumption) ?_
        rotate_left
        · (intro w hSw; (try dsimp only at hSw); (try go_simp); (try with_reducible rfl))
        (try simp only [Act.put, List.getElem_toArray, List.getElem_cons_succ, List.getElem_cons_zero, List.setIfInBounds_toArray, List.set_cons_zero, List.set_cons_succ])
        refine wpAnyH_take (i := 6) (oi := _) (v := ?_) rfl (by kernel_rfl) (by kernel_rfl) (by kernel_rfl) (fun _ _ _ h => h) (Or.inl ⟨by rfl, ?_⟩) (by assumption) ?_
        rotate_left
        · (intro w hSw; (try dsimp only at hSw); (try go_simp); (try with_reducible rfl))
        (try simp only [Act.put, List.getElem_toArray, List.getElem_cons_succ, List.getElem_cons_zero, List.setIfInBounds_toArray, List.set_cons_zero, List.set_cons_succ])
        refine wpAnyH_take (i := 8) (oi := _) (v := ?_) rfl (by kernel_rfl) (by kernel_rfl) (by kernel_rfl) (fun _ _ _ h => h) (Or.inl ⟨by rfl, ?_⟩) (by assumption) ?_
        rotate_left
        · (intro w hSw; (try dsimp only at hSw); (try go_simp); (try with_reducible rfl))
        (try simp only [Act.put, List.getElem_toArray, List.getElem_cons_succ, List.getElem_cons_zero, List.setIfInBounds_toArray, List.set_cons_zero, List.set_cons_succ])
        refine wpAnyH_ready (rs := [7]) (by kernel_rfl) (by simp) ?_
        refine AllReadyH.cons (o := _) rfl (fun K hK => ?_) ?_
        · go_simp
          (with_reducible refine (HK1.out _ (hx.trans hE)).mono ?_); rintro e y4 ⟨rfl, hy⟩; have hE := hE.trans hy
          refine hK.out _ _ ?_ (fun hHeld2 => ?_)
          · (first | exact ⟨cell_ext hy hHeld.1, cell_ext hy hHeld.2⟩ | exact ⟨ca0, ca1⟩ | exact hHeld)
          clear hK K hHeld
          have hHeld := hHeld2
          clear hHeld2
          (try simp only [Act.put, List.getElem_toArray, List.getElem_cons_succ, List.getElem_cons_zero, List.setIfInBounds_toArray, List.set_cons_zero, List.set_cons_succ])
          refine wpAnyH_ready (rs := [9]) (by kernel_rfl) (by simp) ?_
          refine AllReadyH.cons (o := _) rfl (fun K hK => ?_) ?_
          · go_simp
            (with_reducible refine (HK2.out _ (hx.trans hE)).mono ?_); rintro e y5 ⟨rfl, hy⟩; have hE := hE.trans hy
            refine hK.out _ _ ?_ (fun hHeld2 => ?_)
            · (first | exact ⟨cell_ext hy hHeld.1, cell_ext hy hHeld.2⟩ | exact ⟨ca0, ca1⟩ | exact hHeld)
            clear hK K hHeld
            have hHeld := hHeld2
            clear hHeld2
            (try simp only [Act.put, List.getElem_toArray, List.getElem_cons_succ, List.getElem_cons_zero, List.setIfInBounds_toArray, List.set_cons_zero, List.set_cons_succ])
            refine wpAnyH_take (i := 10) (oi := _) (v := ?_) rfl (by kernel_rfl) (by kernel_rfl) (by kernel_rfl) (fun _ _ _ h => h) (Or.inl ⟨by rfl, ?_⟩) (by assumption) ?_
            rotate_left
            · (intro w hSw; (try dsimp only at hSw); (try go_simp); (try with_reducible rfl))
            (try simp only [Act.put, List.getElem_toArray, List.getElem_cons_succ, List.getElem_cons_zero, List.setIfInBounds_toArray, List.set_cons_zero, List.set_cons_succ])
            refine wpAnyH_take (i := 11) (oi := _) (v := ?_) rfl (by kernel_rfl) (by kernel_rfl) (by kernel_rfl) (fun _ _ _ h => h) (Or.inl ⟨by rfl, ?_⟩) (by assumption) ?_
            rotate_left
            · (intro w hSw; (try dsimp only at hSw); (try go_simp); (try with_reducible rfl))
            (try simp only [Act.put, List.getElem_toArray, List.getElem_cons_succ, List.getElem_cons_zero, List.setIfInBounds_toArray, List.set_cons_zero, List.set_cons_succ])
            refine wpAnyH_take (i := 12) (oi := _) (v := ?_) rfl (by kernel_rfl) (by kernel_rfl) (by kernel_rfl) (fun _ _ _ h => h) (Or.inl ⟨by rfl, ?_⟩) (by assumption) ?_
            rotate_left
            · (intro w hSw; (try dsimp only at hSw); (try go_simp); (try with_reducible rfl))
            (try simp only [Act.put, List.getElem_toArray, List.getElem_cons_succ, List.getElem_cons_zero, List.setIfInBounds_toArray, List.set_cons_zero, List.set_cons_succ])
            refine wpAnyH_take (i := 13) (oi := _) (v := ?_) rfl (by kernel_rfl) (by kernel_rfl) (by kernel_rfl) (fun _ _ _ h => h) (Or.inl ⟨by rfl, ?_⟩) (by assumption) ?_
            rotate_left
            · (intro w hSw; (try dsimp only at hSw); (try go_simp); (try with_reducible rfl))
            (try simp only [Act.put, List.getElem_toArray, List.getElem_cons_succ, List.getElem_cons_zero, List.setIfInBounds_toArray, List.set_cons_zero, List.set_cons_succ])
            refine wpAnyH_take (i := 14) (oi := _) (v := ?_) rfl (by kernel_rfl) (by kernel_rfl) (by kernel_rfl) (fun _ _ _ h => h) (Or.inl ⟨by rfl, ?_⟩) (by assumption) ?_
            rotate_left
            · (intro w hSw; (try dsimp only at hSw); (try go_simp); (try with_reducible rfl))
            (try simp only [Act.put, List.getElem_toArray, List.getElem_cons_succ, List.getElem_cons_zero, List.setIfInBounds_toArray, List.set_cons_zero, List.set_cons_succ])
            refine wpAnyH_take (i := 15) (oi := _) (v := ?_) rfl (by kernel_rfl) (by kernel_rfl) (by kernel_rfl) (fun _ _ _ h => h) (Or.inl ⟨by rfl, ?_⟩) (by assumption) ?_
            rotate_left
            · (intro w hSw; (try dsimp only at hSw); (try go_simp); (try with_reducible rfl))
            (try simp only [Act.put, List.getElem_toArray, List.getElem_cons_succ, List.getElem_cons_zero, List.setIfInBounds_toArray, List.set_cons_zero, List.set_cons_succ])
            refine wpAnyH_take (i := 16) (oi := _) (v := ?_) rfl (by kernel_rfl) (by kernel_rfl) (by kernel_rfl) (fun _ _ _ h => h) (Or.inl ⟨by rfl, ?_⟩) (by assumption) ?_
            rotate_left
            · (intro w hSw; (try dsimp only at hSw); (try go_simp); (try with_reducible rfl))
            (try simp only [Act.put, List.getElem_toArray, List.getElem_cons_succ, List.getElem_cons_zero, List.setIfInBounds_toArray, List.set_cons_zero, List.set_cons_succ])
            refine wpAnyH_take (i := 17) (oi := _) (v := ?_) rfl (by kernel_rfl) (by kernel_rfl) (by kernel_rfl) (fun _ _ _ h => h) (Or.inl ⟨by rfl, ?_⟩) (by assumption) ?_
            rotate_left
            · (intro w hSw; (try dsimp only at hSw); (try go_simp); (try with_reducible rfl))
            (try simp only [Act.put, List.getElem_toArray, List.getElem_cons_succ, List.getElem_cons_zero, List.setIfInBounds_toArray, List.set_cons_zero, List.set_cons_succ])
            refine wpAnyH_take (i := 18) (oi := _) (v := ?_) rfl (by kernel_rfl) (by kernel_rfl) (by kernel_rfl) (fun _ _ _ h => h) (Or.inl ⟨by rfl, ?_⟩) (by assumption) ?_
            rotate_left
            · (intro w hSw; (try dsimp only at hSw); (try go_simp); (try with_reducible rfl))
            (try simp only [Act.put, List.getElem_toArray, List.getElem_cons_succ, List.getElem_cons_zero, List.setIfInBounds_toArray, List.set_cons_zero, List.set_cons_succ])
            refine wpAnyH_take (i := 19) (oi := _) (v := ?_) rfl (by kernel_rfl) (by kernel_rfl) (by kernel_rfl) (fun _ _ _ h => h) (Or.inl ⟨by rfl, ?_⟩) (by assumption) ?_
            rotate_left
            · (intro w hSw; (try dsimp only at hSw); (try go_simp); (try with_reducible rfl))
            (try simp only [Act.put, List.getElem_toArray, List.getElem_cons_succ, List.getElem_cons_zero, List.setIfInBounds_toArray, List.set_cons_zero, List.set_cons_succ])
            refine wpAnyH_take (i := 20) (oi := _) (v := ?_) rfl (by kernel_rfl) (by kernel_rfl) (by kernel_rfl) (fun _ _ _ h => h) (Or.inl ⟨by rfl, ?_⟩) (by assumption) ?_
            rotate_left
            · (intro w hSw; (try dsimp only at hSw); (try go_simp); (try with_reducible rfl))
            (try simp only [Act.put, List.getElem_toArray, List.getElem_cons_succ, List.getElem_cons_zero, List.setIfInBounds_toArray, List.set_cons_zero, List.set_cons_succ])
            refine wpAnyH_take (i := 21) (oi := _) (v := ?_) rfl (by kernel_rfl) (by kernel_rfl) (by kernel_rfl) (fun _ _ _ h => h) (Or.inl ⟨by rfl, ?_⟩) (by assumption) ?_
            rotate_left
            · (intro w hSw; (try dsimp only at hSw); (try go_simp); (try with_reducible rfl))
            (try simp only [Act.put, List.getElem_toArray, List.getElem_cons_succ, List.getElem_cons_zero, List.setIfInBounds_toArray, List.set_cons_zero, List.set_cons_succ])
            refine wpAnyH_take (i := 22) (oi := _) (v := ?_) rfl (by kernel_rfl) (by kernel_rfl) (by kernel_rfl) (fun _ _ _ h => h) (Or.inl ⟨by rfl, ?_⟩) (by assumption) ?_
            rotate_left
            · (intro w hSw; (try dsimp only at hSw); (try go_simp); (try with_reducible rfl))
            (try simp only [Act.put, List.getElem_toArray, List.getElem_cons_succ, List.getElem_cons_zero, List.setIfInBounds_toArray, List.set_cons_zero, List.set_cons_succ])
            refine wpAnyH_take (i := 23) (oi := _) (v := ?_) rfl (by kernel_rfl) (by kernel_rfl) (by kernel_rfl) (fun _ _ _ h => h) (Or.inl ⟨by rfl, ?_⟩) (by assumption) ?_
            rotate_left
            · (intro w hSw; (try dsimp only at hSw); (try go_simp); (try with_reducible rfl))
            (try simp only [Act.put, List.getElem_toArray, List.getElem_cons_succ, List.getElem_cons_zero, List.setIfInBounds_toArray, List.set_cons_zero, List.set_cons_succ])
            refine wpAnyH_take (i := 24) (oi := _) (v := ?_) rfl (by kernel_rfl) (by kernel_rfl) (by kernel_rfl) (fun _ _ _ h => h) (Or.inl ⟨by rfl, ?_⟩) (by assumption) ?_
            rotate_left
            · (intro w hSw; (try dsimp only at hSw); (try go_simp); (try with_reducible rfl))
            (try simp only [Act.put, List.getElem_toArray, List.getElem_cons_succ, List.getElem_cons_zero, List.setIfInBounds_toArray, List.set_cons_zero, List.set_cons_succ])
            refine wpAnyH_take (i := 25) (oi := _) (v := ?_) rfl (by kernel_rfl) (by kernel_rfl) (by kernel_rfl) (fun _ _ _ h => h) (Or.inl ⟨by rfl, ?_⟩) (by assumption) ?_
            rotate_left
            · (intro w hSw; (try dsimp only at hSw); (try go_simp); (try with_reducible rfl))
            (try simp only [Act.put, List.getElem_toArray, List.getElem_cons_succ, List.getElem_cons_zero, List.setIfInBounds_toArray, List.set_cons_zero, List.set_cons_succ])
            refine wpAnyH_take (i := 26) (oi := _) (v := ?_) rfl (by kernel_rfl) (by kernel_rfl) (by kernel_rfl) (fun _ _ _ h => h) (Or.inl ⟨by rfl, ?_⟩) (by assumption) ?_
            rotate_left
            · (intro w hSw; (try dsimp only at hSw); (try go_simp); (try with_reducible rfl))
            (try simp only [Act.put, List.getElem_toArray, List.getElem_cons_succ, List.getElem_cons_zero, List.setIfInBounds_toArray, List.set_cons_zero, List.set_cons_succ])
            refine wpAnyH_take (i := 27) (oi := _) (v := ?_) rfl (by kernel_rfl) (by kernel_rfl) (by kernel_rfl) (fun _ _ _ h => h) (Or.inl ⟨by rfl, ?_⟩) (by assumption) ?_
            rotate_left
            · (intro w hSw; (try dsimp only at hSw); (try go_simp); (try with_reducible rfl))
            (try simp only [Act.put, List.getElem_toArray, List.getElem_cons_succ, List.getElem_cons_zero, List.setIfInBounds_toArray, List.set_cons_zero, List.set_cons_succ])
            refine wpAnyH_take (i := 28) (oi := _) (v := ?_) rfl (by kernel_rfl) (by kernel_rfl) (by kernel_rfl) (fun _ _ _ h => h) (Or.inl ⟨by rfl, ?_⟩) (by assumption) ?_
            rotate_left
            · (intro w hSw; (try dsimp only at hSw); (try go_simp); (try with_reducible rfl))
            (try simp only [Act.put, List.getElem_toArray, List.getElem_cons_succ, List.getElem_cons_zero, List.setIfInBounds_toArray, List.set_cons_zero, List.set_cons_succ])
            refine wpAnyH_take (i := 29) (oi := _) (v := ?_) rfl (by kernel_rfl) (by kernel_rfl) (by kernel_rfl) (fun _ _ _ h => h) (Or.inl ⟨by rfl, ?_⟩) (by assumption) ?_
            rotate_left
            · (intro w hSw; (try dsimp only at hSw); (try go_simp); (try with_reducible rfl))
            (try simp only [Act.put, List.getElem_toArray, List.getElem_cons_succ, List.getElem_cons_zero, List.setIfInBounds_toArray, List.set_cons_zero, List.set_cons_succ])
            refine wpAnyH_take (i := 30) (oi := _) (v := ?_) rfl (by kernel_rfl) (by kernel_rfl) (by kernel_rfl) (fun _ _ _ h => h) (Or.inl ⟨by rfl, ?_⟩) (by assumption) ?_
            rotate_left
            · (intro w hSw; (try dsimp only at hSw); (try go_simp); (try with_reducible rfl))
            (try simp only [Act.put, List.getElem_toArray, List.getElem_cons_succ, List.getElem_cons_zero, List.setIfInBounds_toArray, List.set_cons_zero, List.set_cons_succ])
            refine wpAnyH_take (i := 31) (oi := _) (v := ?_) rfl (by kernel_rfl) (by kernel_rfl) (by kernel_rfl) (fun _ _ _ h => h) (Or.inl ⟨by rfl, ?_⟩) (by assumption) ?_
            rotate_left
            · (intro w hSw; (try dsimp only at hSw); (try go_simp); (try with_reducible rfl))
            (try simp only [Act.put, List.getElem_toArray, List.getElem_cons_succ, List.getElem_cons_zero, List.setIfInBounds_toArray, List.set_cons_zero, List.set_cons_succ])
            refine wpAnyH_take (i := 32) (oi := _) (v := ?_) rfl (by kernel_rfl) (by kernel_rfl) (by kernel_rfl) (fun _ _ _ h => h) (Or.inl ⟨by rfl, ?_⟩) (by assumption) ?_
            rotate_left
            · (intro w hSw; (try dsimp only at hSw); (try go_simp); (try with_reducible rfl))
            (try simp only [Act.put, List.getElem_toArray, List.getElem_cons_succ, List.getElem_cons_zero, List.setIfInBounds_toArray, List.set_cons_zero, List.set_cons_succ])
            refine wpAnyH_take (i := 33) (oi := _) (v := ?_) rfl (by kernel_rfl) (by kernel_rfl) (by kernel_rfl) (fun _ _ _ h => h) (Or.inl ⟨by rfl, ?_⟩) (by assumption) ?_
            rotate_left
            · (intro w hSw; (try dsimp only at hSw); (try go_simp); (try with_reducible rfl))
            (try simp only [Act.put, List.getElem_toArray, List.getElem_cons_succ, List.getElem_cons_zero, List.setIfInBounds_toArray, List.set_cons_zero, List.set_cons_succ])
            refine wpAnyH_take (i := 34) (oi := _) (v := ?_) rfl (by kernel_rfl) (by kernel_rfl) (by kernel_rfl) (fun _ _ _ h => h) (Or.inl ⟨by rfl, ?_⟩) (by assumption) ?_
            rotate_left
            · (intro w hSw; (try dsimp only at hSw); (try go_simp); (try with_reducible rfl))
            (try simp only [Act.put, List.getElem_toArray, List.getElem_cons_succ, List.getElem_cons_zero, List.setIfInBounds_toArray, List.set_cons_zero, List.set_cons_succ])
            refine wpAnyH_take (i := 35) (oi := _) (v := ?_) rfl (by kernel_rfl) (by kernel_rfl) (by kernel_rfl) (fun _ _ _ h => h) (Or.inl ⟨by rfl, ?_⟩) (by assumption) ?_
            rotate_left
            · (intro w hSw; (try dsimp only at hSw); (try go_simp); (try with_reducible rfl))
            (try simp only [Act.put, List.getElem_toArray, List.getElem_cons_succ, List.getElem_cons_zero, List.setIfInBounds_toArray, List.set_cons_zero, List.set_cons_succ])
            refine wpAnyH_take (i := 36) (oi := _) (v := ?_) rfl (by kernel_rfl) (by kernel_rfl) (by kernel_rfl) (fun _ _ _ h => h) (Or.inl ⟨by rfl, ?_⟩) (by assumption) ?_
            rotate_left
            · (intro w hSw; (try dsimp only at hSw); (try go_simp); (try with_reducible rfl))
            (try simp only [Act.put, List.getElem_toArray, List.getElem_cons_succ, List.getElem_cons_zero, List.setIfInBounds_toArray, List.set_cons_zero, List.set_cons_succ])
            refine wpAnyH_take (i := 37) (oi := _) (v := ?_) rfl (by kernel_rfl) (by kernel_rfl) (by kernel_rfl) (fun _ _ _ h => h) (Or.inl ⟨by rfl, ?_⟩) (by assumption) ?_
            rotate_left
            · (intro w hSw; (try dsimp only at hSw); (try go_simp); (try with_reducible rfl))
            (try simp only [Act.put, List.getElem_toArray, List.getElem_cons_succ, List.getElem_cons_zero, List.setIfInBounds_toArray, List.set_cons_zero, List.set_cons_succ])
            refine wpAnyH_done (by kernel_rfl) ?_ _
            (go_wp2_with fail; go_ret; exact ⟨rfl, hx.trans hE⟩)
          exact AllReadyH.nil
        exact AllReadyH.nil
      exact AllReadyH.nil
    exact AllReadyH.nil
  exact AllReadyH.nil
theorem law_NSpec (n : Int) (na nb : Bool) (aa ab : Option Addr) (ca cb : Nat) (l m : List Int) (w : World) (hn : -9223372036854775808 ≤ n ∧ n ≤ 9223372036854775807) (ha : Ints w aa ca l) (hb : Ints w ab cb m) :
    Calls Tryd.prog 6 #[.int .i64 n, .agg #[.bool na, .slice aa l.length ca], .agg #[.bool nb, .slice ab m.length cb]] w fun e w' => e = .returned (.bool true) ∧ Ext w w' := by
  cases h1 : fewN l.length
  · exact law_NSpec0 n na nb aa ab _ _ ca cb l m w hn ha hb rfl rfl h1
  · cases h2 : fewN m.length
    · exact law_NSpec1 n na nb aa ab _ _ ca cb l m w hn ha hb rfl rfl ⟨h1, h2⟩
    · exact law_NSpec2 n na nb aa ab _ _ ca cb l m w hn ha hb rfl rfl ⟨h1, h2⟩
end Go.Proofs.YtpaaanbcadlhiaaDoor
