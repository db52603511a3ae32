import Derived.Test.YtpaaanbcadlhiaaDoorPRef8
import Derived.Test.YtpaaanbcadlhiaaDoorPInt
import Derived.Test.YtpaaanbcadlhiaaDoorNMake2
import Derived.Test.YtpaaanbcadlhiaaDoorNSame
import Derived.Deep.LoopGhost
namespace Go.Proofs.YtpaaanbcadlhiaaDoor
open Go.RowKit Go BigFrame Go.Shelf
set_option maxRecDepth 100000
set_option linter.unusedSimpArgs false
set_option linter.unusedVariables false

/-! ref09.Int. -/
theorem ref_bits (z x : Int) (neg : Bool) : (neg = true → wrap64 (wrap64 (wrap64 z * 1073741824) - x) = wrap64 (z * 1073741824 - x)) ∧ (neg = false → wrap64 (wrap64 (wrap64 z * 1073741824) + x) = wrap64 (z * 1073741824 + x)) := by
  refine ⟨fun _ => ?_, fun _ => ?_⟩ <;> unfold wrap64 <;> omega
theorem sgn_step {neg : Bool} {l : List Int} {i : Nat} (hi : i < l.length) : sgn neg (dval (l.drop i)) = if neg then sgn neg (dval (l.drop (i + 1))) * 1073741824 - l.getD i 0 else sgn neg (dval (l.drop (i + 1))) * 1073741824 + l.getD i 0 := by
  rw [drop_get hi, dval]
  cases neg <;> simp only [sgn, if_true, Bool.false_eq_true, if_false] <;> omega
theorem wrap_fit (z : Int) : decide (wrap64 z = z) = fitI z := by
  unfold fitI wrap64
  by_cases h : -9223372036854775808 ≤ z ∧ z ≤ 9223372036854775807
  · rw [decide_eq_true h.1, decide_eq_true h.2, decide_eq_true (by omega)]; rfl
  · have : (decide (-9223372036854775808 ≤ z) && decide (z ≤ 9223372036854775807)) = false := by
      rw [Bool.and_eq_false_iff, decide_eq_false_iff_not, decide_eq_false_iff_not]; omega
    rw [this, decide_eq_false (by omega)]
theorem wrap_in (z : Int) : -9223372036854775808 ≤ wrap64 z ∧ wrap64 z ≤ 9223372036854775807 := by unfold wrap64; omega
theorem same_dec {x y : Value} {z z2 : Int} {w : World} (h : BigV w x z) (h2 : BigV w y z2) : Calls Tryd.prog 18 #[x, y] w fun e w' => e = .returned (.bool (decide (z = z2))) ∧ Ext w w' := ref_Same_val h h2
set_option maxHeartbeats 1000000 in
theorem ref_Int_bad (neg : Bool) (a : Option Addr) (ca : Nat) (l : List Int) (w : World) (h : Ints w a ca l) (hb : chkB neg l = false) :
    Calls Tryd.prog 29 #[.agg #[.bool neg, .slice a l.length ca]] w (IntP 0 false 90 w) := by
  have B1 := Blk.new0 w #[.bool neg, .slice a l.length ca] 24
  have hx : Ext w (w.alloc (.cells #[.bool neg, .slice a l.length ca] 24)) := (by repeat (first | with_reducible exact Ext.refl _ | with_reducible assumption | with_reducible refine Ext.drewN ?_ _ | with_reducible refine Ext.drew ?_ | with_reducible refine Ext.alloc' ?_ _ | with_reducible refine Ext.set ?_ (by dsimp only; omega) _))
  have HC := Lib.hid (ref_Check neg a ca l _ (h.ext hx))
  rw [hb] at HC
  have c0 := B1.cell (i := 0) (v := .bool neg) rfl
  have c1 := B1.cell (i := 1) (v := .slice a l.length ca) rfl
  clear h hb B1
  go_enter Tryd.func29, Tryd.ntmps29
  go_upto_region 1 with fail
  generalize w.alloc (.cells #[.bool neg, .slice a l.length ca] 24) = w1 at *
  go_wp2_with fail
  refine HC.out.mono ?_
  rintro e w2 ⟨rfl, hy⟩
  go_wp2_with fail
  refine bodyPost_ret (v := .tuple #[.int .i64 0, .bool false, .int .i64 90]) (by simp [results, Tryd.results29, go_sem, errN]) rfl ?_
  exact ⟨rfl, hx.trans hy⟩
set_option maxHeartbeats 1000000 in
theorem ref_Int_long (neg : Bool) (a : Option Addr) (ca : Nat) (l : List Int) (w : World) (h : Ints w a ca l) (hb : chkB neg l = true) (he : 3 < l.length) :
    Calls Tryd.prog 29 #[.agg #[.bool neg, .slice a l.length ca]] w (IntP 0 false 0 w) := by
  have B1 := Blk.new0 w #[.bool neg, .slice a l.length ca] 24
  have hx : Ext w (w.alloc (.cells #[.bool neg, .slice a l.length ca] 24)) := (by repeat (first | with_reducible exact Ext.refl _ | with_reducible assumption | with_reducible refine Ext.drewN ?_ _ | with_reducible refine Ext.drew ?_ | with_reducible refine Ext.alloc' ?_ _ | with_reducible refine Ext.set ?_ (by dsimp only; omega) _))
  have HC := Lib.hid (ref_Check neg a ca l _ (h.ext hx))
  rw [hb] at HC
  have HB := Lib.hid B1
  have c0 := B1.cell (i := 0) (v := .bool neg) rfl
  have c1 := B1.cell (i := 1) (v := .slice a l.length ca) rfl
  clear h hb B1
  have t1 : decide (3 < l.length) = true := by simpa using he
  have t2 : decide ((3 : Int) < (l.length : Int)) = true := by simp only [decide_eq_true_eq]; omega
  go_enter Tryd.func29, Tryd.ntmps29
  go_upto_region 1 with fail
  generalize w.alloc (.cells #[.bool neg, .slice a l.length ca] 24) = w1 at *
  go_wp2_with fail
  refine HC.out.mono ?_
  rintro e w2 ⟨rfl, hy⟩
  have d1 := (HB.out.ext hy).cell (i := 1) (v := .slice a l.length ca) rfl
  clear c0 c1
  go_wp2_with fail
  refine bodyPost_ret (v := .tuple #[.int .i64 0, .bool false, .int .i64 0]) (by simp [results, Tryd.results29, go_sem]) rfl ?_
  exact ⟨rfl, hx.trans hy⟩
set_option maxHeartbeats 2000000 in
theorem ref_Int_flt (n : Nat) (a : Option Addr) (ca : Nat) (l : List Int) (w : World) (h : Ints w a ca l) (hb : chkB false l = true) (h1 : l.length = n) (hn3 : n < 3) :
    Calls Tryd.prog 29 #[.agg #[.bool false, .slice a n ca]] w (IntP (fitV (sgn false (dval l))) (fitI (sgn false (dval l))) 0 w) := by
  have hbig := (of_chk hb).1
  have hle1 := h.le
  have hmx1 := h.mx
  rw [h1] at hle1
  have hx : Ext w (w.alloc (.cells #[.bool false, .slice a n ca] 24)) := (by repeat (first | with_reducible exact Ext.refl _ | with_reducible assumption | with_reducible refine Ext.drewN ?_ _ | with_reducible refine Ext.drew ?_ | with_reducible refine Ext.alloc' ?_ _ | with_reducible refine Ext.set ?_ (by dsimp only; omega) _))
  have HC := ref_Check false a ca l _ (h.ext hx)
  rw [hb, h1] at HC
  have HC := Lib.hid HC
  have X1 := Lib.hid (Blk.new0 w #[.bool false, .slice a n ca] 24)
  have c0 := X1.out.cell (i := 0) (v := .bool false) rfl
  have c1 := X1.out.cell (i := 1) (v := .slice a n ca) rfl
  have HL := Lib.hid h1
  have HI := Lib.hid h
  have HBG := Lib.hid hbig
  have t3 : decide (3 < n) = false := by simp only [decide_eq_false_iff_not]; omega
  have t3' : decide ((3 : Int) < (n : Int)) = false := by simp only [decide_eq_false_iff_not]; omega
  have tn2 : (n == 3) = false := by simp only [beq_eq_false_iff_ne]; omega
  have tn3 : ((n : Int) == 3) = false := by simp only [beq_eq_false_iff_ne]; omega
  clear h1 h hb hbig
  go_enter Tryd.func29, Tryd.ntmps29
  go_upto_region 1 with fail
  generalize w.alloc (.cells #[.bool false, .slice a n ca] 24) = w1 at *
  go_wp2_with fail
  refine HC.out.mono ?_
  rintro e w2 ⟨rfl, hy⟩
  have X2 := Lib.hid (X1.out.ext hy)
  have hx2 := Lib.hid (hx.trans hy)
  have d0 := X2.out.cell (i := 0) (v := .bool false) rfl
  have d1 := X2.out.cell (i := 1) (v := .slice a n ca) rfl
  clear c0 c1 HC hy hx
  go_wp2_with fail
  go_loopg [6, 7] n (fun k v6 v7 wr => v6 = .int .i64 (wrap64 (sgn false (dval (l.drop k)))) ∧ v7 = .int .i64 ((k : Int) - 1) ∧ k ≤ n ∧ wr = w2)
  case atStart =>
    refine ⟨?_, by go_num, Nat.le_refl _, rfl⟩
    rw [List.drop_eq_nil_of_le (by rw [HL.out]; exact Nat.le_refl _)]
    exact congrArg (Value.int IntKind.i64) (by simp [dval, sgn, wrap64])
  case round =>
    obtain ⟨rfl, rfl, hk, rfl⟩ := hrel
    obtain ⟨kk, rfl⟩ : ∃ kk, kk = gk := ⟨gk, rfl⟩
    cases kk with
    | zero =>
      have hz : sgn false (dval (l.drop 0)) = sgn false (dval l) := by rw [List.drop_zero]
      rw [hz]
      obtain ⟨z, hz2⟩ : ∃ z, sgn false (dval l) = z := ⟨_, rfl⟩
      have HZ := Lib.hid hz2
      have hbv : BigV wr (.agg #[.bool false, .slice a n ca]) z := ⟨false, l, ⟨a, ca, by rw [HL.out], HI.out.ext hx2.out⟩, by rw [← hz2]; exact HBG.out⟩
      rw [hz2]
      have HBV := Lib.hid hbv
      obtain ⟨v, hv⟩ : ∃ v, wrap64 z = v := ⟨_, rfl⟩
      have HM := Lib.hid (fun W => ref_Make v W (by rw [← hv]; exact wrap_in z))
      have HF := Lib.hid (show decide (v = z) = fitI z by rw [← hv]; exact wrap_fit z)
      have HVZ := Lib.hid hv
      rw [hv]
      clear hz hz2 hbv hv
      go_wp2_with fail
      have hE : Ext wr wr.drew := (Ext.refl _).drew
      have s0 : wr.drew.cell? ⟨w.heap.size, 0, none⟩ = some (.bool false) ∧ wr.drew.cell? ⟨w.heap.size, 1, none⟩ = some (.slice a n ca) := ⟨d0, d1⟩
      have hext : ∀ {A B : World}, Ext A B → A.cell? ⟨w.heap.size, 0, none⟩ = some (.bool false) ∧ A.cell? ⟨w.heap.size, 1, none⟩ = some (.slice a n ca) → B.cell? ⟨w.heap.size, 0, none⟩ = some (.bool false) ∧ B.cell? ⟨w.heap.size, 1, none⟩ = some (.slice a n ca) := fun hAB h => ⟨(hAB.cell (p := ⟨_, _, none⟩) (lt_of_cell h.1)).trans h.1, (hAB.cell (p := ⟨_, _, none⟩) (lt_of_cell h.2)).trans h.2⟩
      refine wp_region_held_drew (S := (fun w' => w'.cell? ⟨w.heap.size, 0, none⟩ = some (.bool false) ∧ w'.cell? ⟨w.heap.size, 1, none⟩ = some (.slice a n ca))) (by kernel_rfl) ?_ (fun hHeld => ?_)
      · (first | exact s0 | exact hext hy hHeld | exact hHeld)
      refine wpAnyH_take (i := 0) (oi := _) (v := ?_) rfl (by kernel_rfl) (by kernel_rfl) (by kernel_rfl) (fun _ _ _ h => h) (Or.inl ⟨by rfl, ?_⟩) (by assumption) ?_
      rotate_left
      · (intro w hSw; (try dsimp only at hSw); (try go_simp); (try with_reducible rfl))
      (try simp only [Act.put, List.getElem_toArray, List.getElem_cons_succ, List.getElem_cons_zero, List.setIfInBounds_toArray, List.set_cons_zero, List.set_cons_succ])
      refine wpAnyH_take (i := 2) (oi := _) (v := ?_) rfl (by kernel_rfl) (by kernel_rfl) (by kernel_rfl) (fun _ _ _ h => h) (Or.inl ⟨by rfl, ?_⟩) (by assumption) ?_
      rotate_left
      · (intro w hSw; (try dsimp only at hSw); (try go_simp); (try with_reducible rfl))
      (try simp only [Act.put, List.getElem_toArray, List.getElem_cons_succ, List.getElem_cons_zero, List.setIfInBounds_toArray, List.set_cons_zero, List.set_cons_succ])
      refine wpAnyH_ready (rs := [1]) (by kernel_rfl) (by simp) ?_
      refine AllReadyH.cons (o := _) rfl (fun K hK => ?_) ?_
      · go_simp
        (with_reducible refine (HM.out _).mono ?_); rintro e z1 ⟨vm, rfl, hvm, hy⟩; have hE := hE.trans hy
        refine hK.out _ _ ?_ (fun hHeld2 => ?_)
        · (first | exact s0 | exact hext hy hHeld | exact hHeld)
        clear hK K hHeld
        have hHeld := hHeld2
        clear hHeld2
        (try simp only [Act.put, List.getElem_toArray, List.getElem_cons_succ, List.getElem_cons_zero, List.setIfInBounds_toArray, List.set_cons_zero, List.set_cons_succ])
        refine wpAnyH_ready (rs := [3]) (by kernel_rfl) (by simp) ?_
        refine AllReadyH.cons (o := _) rfl (fun K hK => ?_) ?_
        · go_simp
          (with_reducible refine (same_dec hvm.val (HBV.out.ext hE)).mono ?_); rintro e z2 ⟨rfl, hy⟩; rw [HF.out]; have hE := hE.trans hy
          refine hK.out _ _ ?_ (fun hHeld2 => ?_)
          · (first | exact s0 | exact hext hy hHeld | exact hHeld)
          clear hK K hHeld
          have hHeld := hHeld2
          clear hHeld2
          (try simp only [Act.put, List.getElem_toArray, List.getElem_cons_succ, List.getElem_cons_zero, List.setIfInBounds_toArray, List.set_cons_zero, List.set_cons_succ])
          refine wpAnyH_take (i := 4) (oi := _) (v := ?_) rfl (by kernel_rfl) (by kernel_rfl) (by kernel_rfl) (fun _ _ _ h => h) (Or.inl ⟨by rfl, ?_⟩) (by assumption) ?_
          rotate_left
          · (intro w hSw; (try dsimp only at hSw); (try go_simp); (try with_reducible rfl))
          (try simp only [Act.put, List.getElem_toArray, List.getElem_cons_succ, List.getElem_cons_zero, List.setIfInBounds_toArray, List.set_cons_zero, List.set_cons_succ])
          refine wpAnyH_done (by kernel_rfl) ?_ _
          rw [HZ.out]
          cases hfit : fitI z
          · have HFV := Lib.hid (show fitV z = 0 by unfold fitV; rw [hfit]; rfl)
            have HFI := Lib.hid hfit
            clear hfit
            go_wp2_with fail
            refine bodyPost_ret (v := .tuple #[.int .i64 0, .bool false, .int .i64 0]) (by simp [results, Tryd.results29, go_sem]) rfl ?_
            exact ⟨by rw [HZ.out, HFV.out, HFI.out], hx2.out.trans hE⟩
          · have HFV := Lib.hid (show fitV z = v by
              have h := HF.out
              rw [hfit, decide_eq_true_eq] at h
              unfold fitV; rw [if_pos hfit, h])
            have HFI := Lib.hid hfit
            clear hfit
            go_wp2_with fail
            refine bodyPost_ret (v := .tuple #[.int .i64 v, .bool true, .int .i64 0]) (by simp [results, Tryd.results29, go_sem]) rfl ?_
            exact ⟨by rw [HZ.out, HFV.out, HFI.out], hx2.out.trans hE⟩
        exact AllReadyH.nil
      exact AllReadyH.nil
    | succ i =>
      have hin : i < n := by omega
      obtain ⟨bb, oo, rfl⟩ := HI.out.head (i := i) (by rw [HL.out]; exact hin)
      obtain ⟨x, hxx⟩ : ∃ x, l.getD i 0 = x := ⟨_, rfl⟩
      have hst := sgn_step (neg := false) (l := l) (i := i) (by rw [HL.out]; exact hin)
      rw [hxx] at hst
      simp only [if_true, Bool.false_eq_true, if_false] at hst
      have hbt := (ref_bits (sgn false (dval (l.drop (i + 1)))) x false).2 rfl
      rw [← hst] at hbt
      have HST := Lib.hid hst
      obtain ⟨v, hv⟩ : ∃ v, wrap64 (sgn false (dval (l.drop (i + 1)))) = v := ⟨_, rfl⟩
      obtain ⟨v2, hv2⟩ : ∃ v, wrap64 (sgn false (dval (l.drop i))) = v := ⟨_, rfl⟩
      rw [hv, hv2] at hbt
      rw [hv]
      have HV2 := Lib.hid hv2
      have e1 : wr.cell? ⟨bb, oo + i, none⟩ = some (.int .i64 x) := by
        rw [((HI.out.ext hx2.out).cell (i := i) (by rw [HL.out]; exact hin)).1, ← hxx]
        simp [List.getD, List.getElem?_eq_getElem (show i < l.length by rw [HL.out]; exact hin)]
      have hi1 : ((i + 1 : Nat) : Int) - 1 = (i : Int) := by omega
      rw [hi1]

      have g1 : (0 : Int) ≤ (i : Int) := by omega
      have g2 : (i : Int) < (n : Int) := by omega
      clear hst hv hv2 hxx hi1
      by_cases h0 : i = 0
      · subst h0
        have e1 : wr.cell? ⟨bb, oo, none⟩ = some (.int .i64 x) := e1
        go_wp2_with fail
        go_roundg 0
        case measure => omega
        case rel => exact ⟨by rw [HV2.out, hbt], by go_num, by omega, rfl⟩
      · have t0 : ((i : Int) == 0) = false := by simp only [beq_eq_false_iff_ne]; omega
        have t0b : (i == 0) = false := by simpa using h0
        have HI0 := Lib.hid h0
        clear h0
        go_wp2_with fail
        go_roundg i
        case measure => omega
        case rel => exact ⟨by rw [HV2.out, hbt], by go_num, by omega, rfl⟩

set_option maxHeartbeats 2000000 in
theorem ref_Int_fle (a : Option Addr) (ca : Nat) (l : List Int) (w : World) (h : Ints w a ca l) (hb : chkB false l = true) (h1 : l.length = 3) (h8 : l.getD 2 0 ≤ 8) :
    Calls Tryd.prog 29 #[.agg #[.bool false, .slice a 3 ca]] w (IntP (fitV (sgn false (dval l))) (fitI (sgn false (dval l))) 0 w) := by
  have hbig := (of_chk hb).1
  have hle1 := h.le
  have hmx1 := h.mx
  rw [h1] at hle1
  have hx : Ext w (w.alloc (.cells #[.bool false, .slice a 3 ca] 24)) := (by repeat (first | with_reducible exact Ext.refl _ | with_reducible assumption | with_reducible refine Ext.drewN ?_ _ | with_reducible refine Ext.drew ?_ | with_reducible refine Ext.alloc' ?_ _ | with_reducible refine Ext.set ?_ (by dsimp only; omega) _))
  have HC := ref_Check false a ca l _ (h.ext hx)
  rw [hb, h1] at HC
  have HC := Lib.hid HC
  have X1 := Lib.hid (Blk.new0 w #[.bool false, .slice a 3 ca] 24)
  have c0 := X1.out.cell (i := 0) (v := .bool false) rfl
  have c1 := X1.out.cell (i := 1) (v := .slice a 3 ca) rfl
  have HL := Lib.hid h1
  have HI := Lib.hid h
  have HBG := Lib.hid hbig
  obtain ⟨t, ht⟩ : ∃ t, l.getD 2 0 = t := ⟨_, rfl⟩
  have HT := Lib.hid ht
  rw [ht] at h8
  have t8 : decide (8 < t) = false := by simp only [decide_eq_false_iff_not]; omega
  clear ht h8
  clear h1 h hb hbig
  go_enter Tryd.func29, Tryd.ntmps29
  go_upto_region 1 with fail
  generalize w.alloc (.cells #[.bool false, .slice a 3 ca] 24) = w1 at *
  go_wp2_with fail
  refine HC.out.mono ?_
  rintro e w2 ⟨rfl, hy⟩
  have X2 := Lib.hid (X1.out.ext hy)
  have hx2 := Lib.hid (hx.trans hy)
  have d0 := X2.out.cell (i := 0) (v := .bool false) rfl
  have d1 := X2.out.cell (i := 1) (v := .slice a 3 ca) rfl
  clear c0 c1 HC hy hx
  go_wp2_with fail
  go_loopg [6, 7] 3 (fun k v6 v7 wr => v6 = .int .i64 (wrap64 (sgn false (dval (l.drop k)))) ∧ v7 = .int .i64 ((k : Int) - 1) ∧ k ≤ 3 ∧ wr = w2)
  case atStart =>
    refine ⟨?_, by go_num, Nat.le_refl _, rfl⟩
    rw [List.drop_eq_nil_of_le (by rw [HL.out]; exact Nat.le_refl _)]
    exact congrArg (Value.int IntKind.i64) (by simp [dval, sgn, wrap64])
  case round =>
    obtain ⟨rfl, rfl, hk, rfl⟩ := hrel
    obtain ⟨kk, rfl⟩ : ∃ kk, kk = gk := ⟨gk, rfl⟩
    cases kk with
    | zero =>
      have hz : sgn false (dval (l.drop 0)) = sgn false (dval l) := by rw [List.drop_zero]
      rw [hz]
      obtain ⟨z, hz2⟩ : ∃ z, sgn false (dval l) = z := ⟨_, rfl⟩
      have HZ := Lib.hid hz2
      have hbv : BigV wr (.agg #[.bool false, .slice a 3 ca]) z := ⟨false, l, ⟨a, ca, by rw [HL.out], HI.out.ext hx2.out⟩, by rw [← hz2]; exact HBG.out⟩
      rw [hz2]
      have HBV := Lib.hid hbv
      obtain ⟨v, hv⟩ : ∃ v, wrap64 z = v := ⟨_, rfl⟩
      have HM := Lib.hid (fun W => ref_Make v W (by rw [← hv]; exact wrap_in z))
      have HF := Lib.hid (show decide (v = z) = fitI z by rw [← hv]; exact wrap_fit z)
      have HVZ := Lib.hid hv
      rw [hv]
      clear hz hz2 hbv hv
      go_wp2_with fail
      have hE : Ext wr wr.drew := (Ext.refl _).drew
      have s0 : wr.drew.cell? ⟨w.heap.size, 0, none⟩ = some (.bool false) ∧ wr.drew.cell? ⟨w.heap.size, 1, none⟩ = some (.slice a 3 ca) := ⟨d0, d1⟩
      have hext : ∀ {A B : World}, Ext A B → A.cell? ⟨w.heap.size, 0, none⟩ = some (.bool false) ∧ A.cell? ⟨w.heap.size, 1, none⟩ = some (.slice a 3 ca) → B.cell? ⟨w.heap.size, 0, none⟩ = some (.bool false) ∧ B.cell? ⟨w.heap.size, 1, none⟩ = some (.slice a 3 ca) := fun hAB h => ⟨(hAB.cell (p := ⟨_, _, none⟩) (lt_of_cell h.1)).trans h.1, (hAB.cell (p := ⟨_, _, none⟩) (lt_of_cell h.2)).trans h.2⟩
      refine wp_region_held_drew (S := (fun w' => w'.cell? ⟨w.heap.size, 0, none⟩ = some (.bool false) ∧ w'.cell? ⟨w.heap.size, 1, none⟩ = some (.slice a 3 ca))) (by kernel_rfl) ?_ (fun hHeld => ?_)
      · (first | exact s0 | exact hext hy hHeld | exact hHeld)
      refine wpAnyH_take (i := 0) (oi := _) (v := ?_) rfl (by kernel_rfl) (by kernel_rfl) (by kernel_rfl) (fun _ _ _ h => h) (Or.inl ⟨by rfl, ?_⟩) (by assumption) ?_
      rotate_left
      · (intro w hSw; (try dsimp only at hSw); (try go_simp); (try with_reducible rfl))
      (try simp only [Act.put, List.getElem_toArray, List.getElem_cons_succ, List.getElem_cons_zero, List.setIfInBounds_toArray, List.set_cons_zero, List.set_cons_succ])
      refine wpAnyH_take (i := 2) (oi := _) (v := ?_) rfl (by kernel_rfl) (by kernel_rfl) (by kernel_rfl) (fun _ _ _ h => h) (Or.inl ⟨by rfl, ?_⟩) (by assumption) ?_
      rotate_left
      · (intro w hSw; (try dsimp only at hSw); (try go_simp); (try with_reducible rfl))
      (try simp only [Act.put, List.getElem_toArray, List.getElem_cons_succ, List.getElem_cons_zero, List.setIfInBounds_toArray, List.set_cons_zero, List.set_cons_succ])
      refine wpAnyH_ready (rs := [1]) (by kernel_rfl) (by simp) ?_
      refine AllReadyH.cons (o := _) rfl (fun K hK => ?_) ?_
      · go_simp
        (with_reducible refine (HM.out _).mono ?_); rintro e z1 ⟨vm, rfl, hvm, hy⟩; have hE := hE.trans hy
        refine hK.out _ _ ?_ (fun hHeld2 => ?_)
        · (first | exact s0 | exact hext hy hHeld | exact hHeld)
        clear hK K hHeld
        have hHeld := hHeld2
        clear hHeld2
        (try simp only [Act.put, List.getElem_toArray, List.getElem_cons_succ, List.getElem_cons_zero, List.setIfInBounds_toArray, List.set_cons_zero, List.set_cons_succ])
        refine wpAnyH_ready (rs := [3]) (by kernel_rfl) (by simp) ?_
        refine AllReadyH.cons (o := _) rfl (fun K hK => ?_) ?_
        · go_simp
          (with_reducible refine (same_dec hvm.val (HBV.out.ext hE)).mono ?_); rintro e z2 ⟨rfl, hy⟩; rw [HF.out]; have hE := hE.trans hy
          refine hK.out _ _ ?_ (fun hHeld2 => ?_)
          · (first | exact s0 | exact hext hy hHeld | exact hHeld)
          clear hK K hHeld
          have hHeld := hHeld2
          clear hHeld2
          (try simp only [Act.put, List.getElem_toArray, List.getElem_cons_succ, List.getElem_cons_zero, List.setIfInBounds_toArray, List.set_cons_zero, List.set_cons_succ])
          refine wpAnyH_take (i := 4) (oi := _) (v := ?_) rfl (by kernel_rfl) (by kernel_rfl) (by kernel_rfl) (fun _ _ _ h => h) (Or.inl ⟨by rfl, ?_⟩) (by assumption) ?_
          rotate_left
          · (intro w hSw; (try dsimp only at hSw); (try go_simp); (try with_reducible rfl))
          (try simp only [Act.put, List.getElem_toArray, List.getElem_cons_succ, List.getElem_cons_zero, List.setIfInBounds_toArray, List.set_cons_zero, List.set_cons_succ])
          refine wpAnyH_done (by kernel_rfl) ?_ _
          rw [HZ.out]
          cases hfit : fitI z
          · have HFV := Lib.hid (show fitV z = 0 by unfold fitV; rw [hfit]; rfl)
            have HFI := Lib.hid hfit
            clear hfit
            go_wp2_with fail
            refine bodyPost_ret (v := .tuple #[.int .i64 0, .bool false, .int .i64 0]) (by simp [results, Tryd.results29, go_sem]) rfl ?_
            exact ⟨by rw [HZ.out, HFV.out, HFI.out], hx2.out.trans hE⟩
          · have HFV := Lib.hid (show fitV z = v by
              have h := HF.out
              rw [hfit, decide_eq_true_eq] at h
              unfold fitV; rw [if_pos hfit, h])
            have HFI := Lib.hid hfit
            clear hfit
            go_wp2_with fail
            refine bodyPost_ret (v := .tuple #[.int .i64 v, .bool true, .int .i64 0]) (by simp [results, Tryd.results29, go_sem]) rfl ?_
            exact ⟨by rw [HZ.out, HFV.out, HFI.out], hx2.out.trans hE⟩
        exact AllReadyH.nil
      exact AllReadyH.nil
    | succ i =>
      have hin : i < 3 := by omega
      obtain ⟨bb, oo, rfl⟩ := HI.out.head (i := i) (by rw [HL.out]; exact hin)
      obtain ⟨x, hxx⟩ : ∃ x, l.getD i 0 = x := ⟨_, rfl⟩
      have hst := sgn_step (neg := false) (l := l) (i := i) (by rw [HL.out]; exact hin)
      rw [hxx] at hst
      simp only [if_true, Bool.false_eq_true, if_false] at hst
      have hbt := (ref_bits (sgn false (dval (l.drop (i + 1)))) x false).2 rfl
      rw [← hst] at hbt
      have HST := Lib.hid hst
      obtain ⟨v, hv⟩ : ∃ v, wrap64 (sgn false (dval (l.drop (i + 1)))) = v := ⟨_, rfl⟩
      obtain ⟨v2, hv2⟩ : ∃ v, wrap64 (sgn false (dval (l.drop i))) = v := ⟨_, rfl⟩
      rw [hv, hv2] at hbt
      rw [hv]
      have HV2 := Lib.hid hv2
      have e1 : wr.cell? ⟨bb, oo + i, none⟩ = some (.int .i64 x) := by
        rw [((HI.out.ext hx2.out).cell (i := i) (by rw [HL.out]; exact hin)).1, ← hxx]
        simp [List.getD, List.getElem?_eq_getElem (show i < l.length by rw [HL.out]; exact hin)]
      have hi1 : ((i + 1 : Nat) : Int) - 1 = (i : Int) := by omega
      rw [hi1]
      have e2 : wr.cell? ⟨bb, oo + 2, none⟩ = some (.int .i64 t) := by
        rw [((HI.out.ext hx2.out).cell (i := 2) (by rw [HL.out]; omega)).1, ← HT.out]
        simp [List.getD, List.getElem?_eq_getElem (show 2 < l.length by rw [HL.out]; omega)]
      have g1 : (0 : Int) ≤ (i : Int) := by omega
      have g2 : (i : Int) < (3 : Int) := by omega
      clear hst hv hv2 hxx hi1
      by_cases h0 : i = 0
      · subst h0
        have e1 : wr.cell? ⟨bb, oo, none⟩ = some (.int .i64 x) := e1
        go_wp2_with fail
        go_roundg 0
        case measure => omega
        case rel => exact ⟨by rw [HV2.out, hbt], by go_num, by omega, rfl⟩
      · have t0 : ((i : Int) == 0) = false := by simp only [beq_eq_false_iff_ne]; omega
        have t0b : (i == 0) = false := by simpa using h0
        have HI0 := Lib.hid h0
        clear h0
        go_wp2_with fail
        go_roundg i
        case measure => omega
        case rel => exact ⟨by rw [HV2.out, hbt], by go_num, by omega, rfl⟩

set_option maxHeartbeats 2000000 in
theorem ref_Int_fgt (a : Option Addr) (ca : Nat) (l : List Int) (w : World) (h : Ints w a ca l) (hb : chkB false l = true) (h1 : l.length = 3) (h8 : 8 < l.getD 2 0) :
    Calls Tryd.prog 29 #[.agg #[.bool false, .slice a 3 ca]] w (IntP 0 false 0 w) := by
  have hbig := (of_chk hb).1
  have hle1 := h.le
  have hmx1 := h.mx
  rw [h1] at hle1
  have hx : Ext w (w.alloc (.cells #[.bool false, .slice a 3 ca] 24)) := (by repeat (first | with_reducible exact Ext.refl _ | with_reducible assumption | with_reducible refine Ext.drewN ?_ _ | with_reducible refine Ext.drew ?_ | with_reducible refine Ext.alloc' ?_ _ | with_reducible refine Ext.set ?_ (by dsimp only; omega) _))
  have HC := ref_Check false a ca l _ (h.ext hx)
  rw [hb, h1] at HC
  have HC := Lib.hid HC
  have X1 := Lib.hid (Blk.new0 w #[.bool false, .slice a 3 ca] 24)
  have c0 := X1.out.cell (i := 0) (v := .bool false) rfl
  have c1 := X1.out.cell (i := 1) (v := .slice a 3 ca) rfl
  have HL := Lib.hid h1
  have HI := Lib.hid h
  have HBG := Lib.hid hbig
  obtain ⟨t, ht⟩ : ∃ t, l.getD 2 0 = t := ⟨_, rfl⟩
  have HT := Lib.hid ht
  rw [ht] at h8
  have t8 : decide (8 < t) = true := by simp only [decide_eq_true_eq]; omega
  clear ht h8
  clear h1 h hb hbig
  go_enter Tryd.func29, Tryd.ntmps29
  go_upto_region 1 with fail
  generalize w.alloc (.cells #[.bool false, .slice a 3 ca] 24) = w1 at *
  go_wp2_with fail
  refine HC.out.mono ?_
  rintro e w2 ⟨rfl, hy⟩
  have X2 := Lib.hid (X1.out.ext hy)
  have hx2 := Lib.hid (hx.trans hy)
  have d0 := X2.out.cell (i := 0) (v := .bool false) rfl
  have d1 := X2.out.cell (i := 1) (v := .slice a 3 ca) rfl
  clear c0 c1 HC hy hx
  go_wp2_with fail
  go_loopg [6, 7] 3 (fun k v6 v7 wr => v6 = .int .i64 (wrap64 (sgn false (dval (l.drop k)))) ∧ v7 = .int .i64 ((k : Int) - 1) ∧ k ≤ 3 ∧ 1 ≤ k ∧ wr = w2)
  case atStart =>
    refine ⟨?_, by go_num, Nat.le_refl _, by omega, rfl⟩
    rw [List.drop_eq_nil_of_le (by rw [HL.out]; exact Nat.le_refl _)]
    exact congrArg (Value.int IntKind.i64) (by simp [dval, sgn, wrap64])
  case round =>
    obtain ⟨rfl, rfl, hk, hk1, rfl⟩ := hrel
    obtain ⟨kk, rfl⟩ : ∃ kk, kk = gk := ⟨gk, rfl⟩
    cases kk with
    | zero =>
      omega
    | succ i =>
      have hin : i < 3 := by omega
      obtain ⟨bb, oo, rfl⟩ := HI.out.head (i := i) (by rw [HL.out]; exact hin)
      obtain ⟨x, hxx⟩ : ∃ x, l.getD i 0 = x := ⟨_, rfl⟩
      have hst := sgn_step (neg := false) (l := l) (i := i) (by rw [HL.out]; exact hin)
      rw [hxx] at hst
      simp only [if_true, Bool.false_eq_true, if_false] at hst
      have hbt := (ref_bits (sgn false (dval (l.drop (i + 1)))) x false).2 rfl
      rw [← hst] at hbt
      have HST := Lib.hid hst
      obtain ⟨v, hv⟩ : ∃ v, wrap64 (sgn false (dval (l.drop (i + 1)))) = v := ⟨_, rfl⟩
      obtain ⟨v2, hv2⟩ : ∃ v, wrap64 (sgn false (dval (l.drop i))) = v := ⟨_, rfl⟩
      rw [hv, hv2] at hbt
      rw [hv]
      have HV2 := Lib.hid hv2
      have e1 : wr.cell? ⟨bb, oo + i, none⟩ = some (.int .i64 x) := by
        rw [((HI.out.ext hx2.out).cell (i := i) (by rw [HL.out]; exact hin)).1, ← hxx]
        simp [List.getD, List.getElem?_eq_getElem (show i < l.length by rw [HL.out]; exact hin)]
      have hi1 : ((i + 1 : Nat) : Int) - 1 = (i : Int) := by omega
      rw [hi1]
      have e2 : wr.cell? ⟨bb, oo + 2, none⟩ = some (.int .i64 t) := by
        rw [((HI.out.ext hx2.out).cell (i := 2) (by rw [HL.out]; omega)).1, ← HT.out]
        simp [List.getD, List.getElem?_eq_getElem (show 2 < l.length by rw [HL.out]; omega)]
      have g1 : (0 : Int) ≤ (i : Int) := by omega
      have g2 : (i : Int) < (3 : Int) := by omega
      clear hst hv hv2 hxx hi1
      by_cases h0 : i = 0
      · subst h0
        have e1 : wr.cell? ⟨bb, oo, none⟩ = some (.int .i64 x) := e1
        go_wp2_with fail
        refine bodyPost_ret (v := .tuple #[.int .i64 0, .bool false, .int .i64 0]) (by simp [results, Tryd.results29, go_sem]) rfl ?_
        exact ⟨rfl, hx2.out⟩
      · have t0 : ((i : Int) == 0) = false := by simp only [beq_eq_false_iff_ne]; omega
        have t0b : (i == 0) = false := by simpa using h0
        have HI0 := Lib.hid h0
        clear h0
        go_wp2_with fail
        go_roundg i
        case measure => omega
        case rel => exact ⟨by rw [HV2.out, hbt], by go_num, by omega, by have := HI0.out; omega, rfl⟩

set_option maxHeartbeats 2000000 in
theorem ref_Int_tlt (n : Nat) (a : Option Addr) (ca : Nat) (l : List Int) (w : World) (h : Ints w a ca l) (hb : chkB true l = true) (h1 : l.length = n) (hn3 : n < 3) :
    Calls Tryd.prog 29 #[.agg #[.bool true, .slice a n ca]] w (IntP (fitV (sgn true (dval l))) (fitI (sgn true (dval l))) 0 w) := by
  have hbig := (of_chk hb).1
  have hle1 := h.le
  have hmx1 := h.mx
  rw [h1] at hle1
  have hx : Ext w (w.alloc (.cells #[.bool true, .slice a n ca] 24)) := (by repeat (first | with_reducible exact Ext.refl _ | with_reducible assumption | with_reducible refine Ext.drewN ?_ _ | with_reducible refine Ext.drew ?_ | with_reducible refine Ext.alloc' ?_ _ | with_reducible refine Ext.set ?_ (by dsimp only; omega) _))
  have HC := ref_Check true a ca l _ (h.ext hx)
  rw [hb, h1] at HC
  have HC := Lib.hid HC
  have X1 := Lib.hid (Blk.new0 w #[.bool true, .slice a n ca] 24)
  have c0 := X1.out.cell (i := 0) (v := .bool true) rfl
  have c1 := X1.out.cell (i := 1) (v := .slice a n ca) rfl
  have HL := Lib.hid h1
  have HI := Lib.hid h
  have HBG := Lib.hid hbig
  have t3 : decide (3 < n) = false := by simp only [decide_eq_false_iff_not]; omega
  have t3' : decide ((3 : Int) < (n : Int)) = false := by simp only [decide_eq_false_iff_not]; omega
  have tn2 : (n == 3) = false := by simp only [beq_eq_false_iff_ne]; omega
  have tn3 : ((n : Int) == 3) = false := by simp only [beq_eq_false_iff_ne]; omega
  clear h1 h hb hbig
  go_enter Tryd.func29, Tryd.ntmps29
  go_upto_region 1 with fail
  generalize w.alloc (.cells #[.bool true, .slice a n ca] 24) = w1 at *
  go_wp2_with fail
  refine HC.out.mono ?_
  rintro e w2 ⟨rfl, hy⟩
  have X2 := Lib.hid (X1.out.ext hy)
  have hx2 := Lib.hid (hx.trans hy)
  have d0 := X2.out.cell (i := 0) (v := .bool true) rfl
  have d1 := X2.out.cell (i := 1) (v := .slice a n ca) rfl
  clear c0 c1 HC hy hx
  go_wp2_with fail
  go_loopg [6, 7] n (fun k v6 v7 wr => v6 = .int .i64 (wrap64 (sgn true (dval (l.drop k)))) ∧ v7 = .int .i64 ((k : Int) - 1) ∧ k ≤ n ∧ wr = w2)
  case atStart =>
    refine ⟨?_, by go_num, Nat.le_refl _, rfl⟩
    rw [List.drop_eq_nil_of_le (by rw [HL.out]; exact Nat.le_refl _)]
    exact congrArg (Value.int IntKind.i64) (by simp [dval, sgn, wrap64])
  case round =>
    obtain ⟨rfl, rfl, hk, rfl⟩ := hrel
    obtain ⟨kk, rfl⟩ : ∃ kk, kk = gk := ⟨gk, rfl⟩
    cases kk with
    | zero =>
      have hz : sgn true (dval (l.drop 0)) = sgn true (dval l) := by rw [List.drop_zero]
      rw [hz]
      obtain ⟨z, hz2⟩ : ∃ z, sgn true (dval l) = z := ⟨_, rfl⟩
      have HZ := Lib.hid hz2
      have hbv : BigV wr (.agg #[.bool true, .slice a n ca]) z := ⟨true, l, ⟨a, ca, by rw [HL.out], HI.out.ext hx2.out⟩, by rw [← hz2]; exact HBG.out⟩
      rw [hz2]
      have HBV := Lib.hid hbv
      obtain ⟨v, hv⟩ : ∃ v, wrap64 z = v := ⟨_, rfl⟩
      have HM := Lib.hid (fun W => ref_Make v W (by rw [← hv]; exact wrap_in z))
      have HF := Lib.hid (show decide (v = z) = fitI z by rw [← hv]; exact wrap_fit z)
      have HVZ := Lib.hid hv
      rw [hv]
      clear hz hz2 hbv hv
      go_wp2_with fail
      have hE : Ext wr wr.drew := (Ext.refl _).drew
      have s0 : wr.drew.cell? ⟨w.heap.size, 0, none⟩ = some (.bool true) ∧ wr.drew.cell? ⟨w.heap.size, 1, none⟩ = some (.slice a n ca) := ⟨d0, d1⟩
      have hext : ∀ {A B : World}, Ext A B → A.cell? ⟨w.heap.size, 0, none⟩ = some (.bool true) ∧ A.cell? ⟨w.heap.size, 1, none⟩ = some (.slice a n ca) → B.cell? ⟨w.heap.size, 0, none⟩ = some (.bool true) ∧ B.cell? ⟨w.heap.size, 1, none⟩ = some (.slice a n ca) := fun hAB h => ⟨(hAB.cell (p := ⟨_, _, none⟩) (lt_of_cell h.1)).trans h.1, (hAB.cell (p := ⟨_, _, none⟩) (lt_of_cell h.2)).trans h.2⟩
      refine wp_region_held_drew (S := (fun w' => w'.cell? ⟨w.heap.size, 0, none⟩ = some (.bool true) ∧ w'.cell? ⟨w.heap.size, 1, none⟩ = some (.slice a n ca))) (by kernel_rfl) ?_ (fun hHeld => ?_)
      · (first | exact s0 | exact hext hy hHeld | exact hHeld)
      refine wpAnyH_take (i := 0) (oi := _) (v := ?_) rfl (by kernel_rfl) (by kernel_rfl) (by kernel_rfl) (fun _ _ _ h => h) (Or.inl ⟨by rfl, ?_⟩) (by assumption) ?_
      rotate_left
      · (intro w hSw; (try dsimp only at hSw); (try go_simp); (try with_reducible rfl))
      (try simp only [Act.put, List.getElem_toArray, List.getElem_cons_succ, List.getElem_cons_zero, List.setIfInBounds_toArray, List.set_cons_zero, List.set_cons_succ])
      refine wpAnyH_take (i := 2) (oi := _) (v := ?_) rfl (by kernel_rfl) (by kernel_rfl) (by kernel_rfl) (fun _ _ _ h => h) (Or.inl ⟨by rfl, ?_⟩) (by assumption) ?_
      rotate_left
      · (intro w hSw; (try dsimp only at hSw); (try go_simp); (try with_reducible rfl))
      (try simp only [Act.put, List.getElem_toArray, List.getElem_cons_succ, List.getElem_cons_zero, List.setIfInBounds_toArray, List.set_cons_zero, List.set_cons_succ])
      refine wpAnyH_ready (rs := [1]) (by kernel_rfl) (by simp) ?_
      refine AllReadyH.cons (o := _) rfl (fun K hK => ?_) ?_
      · go_simp
        (with_reducible refine (HM.out _).mono ?_); rintro e z1 ⟨vm, rfl, hvm, hy⟩; have hE := hE.trans hy
        refine hK.out _ _ ?_ (fun hHeld2 => ?_)
        · (first | exact s0 | exact hext hy hHeld | exact hHeld)
        clear hK K hHeld
        have hHeld := hHeld2
        clear hHeld2
        (try simp only [Act.put, List.getElem_toArray, List.getElem_cons_succ, List.getElem_cons_zero, List.setIfInBounds_toArray, List.set_cons_zero, List.set_cons_succ])
        refine wpAnyH_ready (rs := [3]) (by kernel_rfl) (by simp) ?_
        refine AllReadyH.cons (o := _) rfl (fun K hK => ?_) ?_
        · go_simp
          (with_reducible refine (same_dec hvm.val (HBV.out.ext hE)).mono ?_); rintro e z2 ⟨rfl, hy⟩; rw [HF.out]; have hE := hE.trans hy
          refine hK.out _ _ ?_ (fun hHeld2 => ?_)
          · (first | exact s0 | exact hext hy hHeld | exact hHeld)
          clear hK K hHeld
          have hHeld := hHeld2
          clear hHeld2
          (try simp only [Act.put, List.getElem_toArray, List.getElem_cons_succ, List.getElem_cons_zero, List.setIfInBounds_toArray, List.set_cons_zero, List.set_cons_succ])
          refine wpAnyH_take (i := 4) (oi := _) (v := ?_) rfl (by kernel_rfl) (by kernel_rfl) (by kernel_rfl) (fun _ _ _ h => h) (Or.inl ⟨by rfl, ?_⟩) (by assumption) ?_
          rotate_left
          · (intro w hSw; (try dsimp only at hSw); (try go_simp); (try with_reducible rfl))
          (try simp only [Act.put, List.getElem_toArray, List.getElem_cons_succ, List.getElem_cons_zero, List.setIfInBounds_toArray, List.set_cons_zero, List.set_cons_succ])
          refine wpAnyH_done (by kernel_rfl) ?_ _
          rw [HZ.out]
          cases hfit : fitI z
          · have HFV := Lib.hid (show fitV z = 0 by unfold fitV; rw [hfit]; rfl)
            have HFI := Lib.hid hfit
            clear hfit
            go_wp2_with fail
            refine bodyPost_ret (v := .tuple #[.int .i64 0, .bool false, .int .i64 0]) (by simp [results, Tryd.results29, go_sem]) rfl ?_
            exact ⟨by rw [HZ.out, HFV.out, HFI.out], hx2.out.trans hE⟩
          · have HFV := Lib.hid (show fitV z = v by
              have h := HF.out
              rw [hfit, decide_eq_true_eq] at h
              unfold fitV; rw [if_pos hfit, h])
            have HFI := Lib.hid hfit
            clear hfit
            go_wp2_with fail
            refine bodyPost_ret (v := .tuple #[.int .i64 v, .bool true, .int .i64 0]) (by simp [results, Tryd.results29, go_sem]) rfl ?_
            exact ⟨by rw [HZ.out, HFV.out, HFI.out], hx2.out.trans hE⟩
        exact AllReadyH.nil
      exact AllReadyH.nil
    | succ i =>
      have hin : i < n := by omega
      obtain ⟨bb, oo, rfl⟩ := HI.out.head (i := i) (by rw [HL.out]; exact hin)
      obtain ⟨x, hxx⟩ : ∃ x, l.getD i 0 = x := ⟨_, rfl⟩
      have hst := sgn_step (neg := true) (l := l) (i := i) (by rw [HL.out]; exact hin)
      rw [hxx] at hst
      simp only [if_true, Bool.false_eq_true, if_false] at hst
      have hbt := (ref_bits (sgn true (dval (l.drop (i + 1)))) x true).1 rfl
      rw [← hst] at hbt
      have HST := Lib.hid hst
      obtain ⟨v, hv⟩ : ∃ v, wrap64 (sgn true (dval (l.drop (i + 1)))) = v := ⟨_, rfl⟩
      obtain ⟨v2, hv2⟩ : ∃ v, wrap64 (sgn true (dval (l.drop i))) = v := ⟨_, rfl⟩
      rw [hv, hv2] at hbt
      rw [hv]
      have HV2 := Lib.hid hv2
      have e1 : wr.cell? ⟨bb, oo + i, none⟩ = some (.int .i64 x) := by
        rw [((HI.out.ext hx2.out).cell (i := i) (by rw [HL.out]; exact hin)).1, ← hxx]
        simp [List.getD, List.getElem?_eq_getElem (show i < l.length by rw [HL.out]; exact hin)]
      have hi1 : ((i + 1 : Nat) : Int) - 1 = (i : Int) := by omega
      rw [hi1]

      have g1 : (0 : Int) ≤ (i : Int) := by omega
      have g2 : (i : Int) < (n : Int) := by omega
      clear hst hv hv2 hxx hi1
      by_cases h0 : i = 0
      · subst h0
        have e1 : wr.cell? ⟨bb, oo, none⟩ = some (.int .i64 x) := e1
        go_wp2_with fail
        go_roundg 0
        case measure => omega
        case rel => exact ⟨by rw [HV2.out, hbt], by go_num, by omega, rfl⟩
      · have t0 : ((i : Int) == 0) = false := by simp only [beq_eq_false_iff_ne]; omega
        have t0b : (i == 0) = false := by simpa using h0
        have HI0 := Lib.hid h0
        clear h0
        go_wp2_with fail
        go_roundg i
        case measure => omega
        case rel => exact ⟨by rw [HV2.out, hbt], by go_num, by omega, rfl⟩

set_option maxHeartbeats 2000000 in
theorem ref_Int_tle (a : Option Addr) (ca : Nat) (l : List Int) (w : World) (h : Ints w a ca l) (hb : chkB true l = true) (h1 : l.length = 3) (h8 : l.getD 2 0 ≤ 8) :
    Calls Tryd.prog 29 #[.agg #[.bool true, .slice a 3 ca]] w (IntP (fitV (sgn true (dval l))) (fitI (sgn true (dval l))) 0 w) := by
  have hbig := (of_chk hb).1
  have hle1 := h.le
  have hmx1 := h.mx
  rw [h1] at hle1
  have hx : Ext w (w.alloc (.cells #[.bool true, .slice a 3 ca] 24)) := (by repeat (first | with_reducible exact Ext.refl _ | with_reducible assumption | with_reducible refine Ext.drewN ?_ _ | with_reducible refine Ext.drew ?_ | with_reducible refine Ext.alloc' ?_ _ | with_reducible refine Ext.set ?_ (by dsimp only; omega) _))
  have HC := ref_Check true a ca l _ (h.ext hx)
  rw [hb, h1] at HC
  have HC := Lib.hid HC
  have X1 := Lib.hid (Blk.new0 w #[.bool true, .slice a 3 ca] 24)
  have c0 := X1.out.cell (i := 0) (v := .bool true) rfl
  have c1 := X1.out.cell (i := 1) (v := .slice a 3 ca) rfl
  have HL := Lib.hid h1
  have HI := Lib.hid h
  have HBG := Lib.hid hbig
  obtain ⟨t, ht⟩ : ∃ t, l.getD 2 0 = t := ⟨_, rfl⟩
  have HT := Lib.hid ht
  rw [ht] at h8
  have t8 : decide (8 < t) = false := by simp only [decide_eq_false_iff_not]; omega
  clear ht h8
  clear h1 h hb hbig
  go_enter Tryd.func29, Tryd.ntmps29
  go_upto_region 1 with fail
  generalize w.alloc (.cells #[.bool true, .slice a 3 ca] 24) = w1 at *
  go_wp2_with fail
  refine HC.out.mono ?_
  rintro e w2 ⟨rfl, hy⟩
  have X2 := Lib.hid (X1.out.ext hy)
  have hx2 := Lib.hid (hx.trans hy)
  have d0 := X2.out.cell (i := 0) (v := .bool true) rfl
  have d1 := X2.out.cell (i := 1) (v := .slice a 3 ca) rfl
  clear c0 c1 HC hy hx
  go_wp2_with fail
  go_loopg [6, 7] 3 (fun k v6 v7 wr => v6 = .int .i64 (wrap64 (sgn true (dval (l.drop k)))) ∧ v7 = .int .i64 ((k : Int) - 1) ∧ k ≤ 3 ∧ wr = w2)
  case atStart =>
    refine ⟨?_, by go_num, Nat.le_refl _, rfl⟩
    rw [List.drop_eq_nil_of_le (by rw [HL.out]; exact Nat.le_refl _)]
    exact congrArg (Value.int IntKind.i64) (by simp [dval, sgn, wrap64])
  case round =>
    obtain ⟨rfl, rfl, hk, rfl⟩ := hrel
    obtain ⟨kk, rfl⟩ : ∃ kk, kk = gk := ⟨gk, rfl⟩
    cases kk with
    | zero =>
      have hz : sgn true (dval (l.drop 0)) = sgn true (dval l) := by rw [List.drop_zero]
      rw [hz]
      obtain ⟨z, hz2⟩ : ∃ z, sgn true (dval l) = z := ⟨_, rfl⟩
      have HZ := Lib.hid hz2
      have hbv : BigV wr (.agg #[.bool true, .slice a 3 ca]) z := ⟨true, l, ⟨a, ca, by rw [HL.out], HI.out.ext hx2.out⟩, by rw [← hz2]; exact HBG.out⟩
      rw [hz2]
      have HBV := Lib.hid hbv
      obtain ⟨v, hv⟩ : ∃ v, wrap64 z = v := ⟨_, rfl⟩
      have HM := Lib.hid (fun W => ref_Make v W (by rw [← hv]; exact wrap_in z))
      have HF := Lib.hid (show decide (v = z) = fitI z by rw [← hv]; exact wrap_fit z)
      have HVZ := Lib.hid hv
      rw [hv]
      clear hz hz2 hbv hv
      go_wp2_with fail
      have hE : Ext wr wr.drew := (Ext.refl _).drew
      have s0 : wr.drew.cell? ⟨w.heap.size, 0, none⟩ = some (.bool true) ∧ wr.drew.cell? ⟨w.heap.size, 1, none⟩ = some (.slice a 3 ca) := ⟨d0, d1⟩
      have hext : ∀ {A B : World}, Ext A B → A.cell? ⟨w.heap.size, 0, none⟩ = some (.bool true) ∧ A.cell? ⟨w.heap.size, 1, none⟩ = some (.slice a 3 ca) → B.cell? ⟨w.heap.size, 0, none⟩ = some (.bool true) ∧ B.cell? ⟨w.heap.size, 1, none⟩ = some (.slice a 3 ca) := fun hAB h => ⟨(hAB.cell (p := ⟨_, _, none⟩) (lt_of_cell h.1)).trans h.1, (hAB.cell (p := ⟨_, _, none⟩) (lt_of_cell h.2)).trans h.2⟩
      refine wp_region_held_drew (S := (fun w' => w'.cell? ⟨w.heap.size, 0, none⟩ = some (.bool true) ∧ w'.cell? ⟨w.heap.size, 1, none⟩ = some (.slice a 3 ca))) (by kernel_rfl) ?_ (fun hHeld => ?_)
      · (first | exact s0 | exact hext hy hHeld | exact hHeld)
      refine wpAnyH_take (i := 0) (oi := _) (v := ?_) rfl (by kernel_rfl) (by kernel_rfl) (by kernel_rfl) (fun _ _ _ h => h) (Or.inl ⟨by rfl, ?_⟩) (by assumption) ?_
      rotate_left
      · (intro w hSw; (try dsimp only at hSw); (try go_simp); (try with_reducible rfl))
      (try simp only [Act.put, List.getElem_toArray, List.getElem_cons_succ, List.getElem_cons_zero, List.setIfInBounds_toArray, List.set_cons_zero, List.set_cons_succ])
      refine wpAnyH_take (i := 2) (oi := _) (v := ?_) rfl (by kernel_rfl) (by kernel_rfl) (by kernel_rfl) (fun _ _ _ h => h) (Or.inl ⟨by rfl, ?_⟩) (by assumption) ?_
      rotate_left
      · (intro w hSw; (try dsimp only at hSw); (try go_simp); (try with_reducible rfl))
      (try simp only [Act.put, List.getElem_toArray, List.getElem_cons_succ, List.getElem_cons_zero, List.setIfInBounds_toArray, List.set_cons_zero, List.set_cons_succ])
      refine wpAnyH_ready (rs := [1]) (by kernel_rfl) (by simp) ?_
      refine AllReadyH.cons (o := _) rfl (fun K hK => ?_) ?_
      · go_simp
        (with_reducible refine (HM.out _).mono ?_); rintro e z1 ⟨vm, rfl, hvm, hy⟩; have hE := hE.trans hy
        refine hK.out _ _ ?_ (fun hHeld2 => ?_)
        · (first | exact s0 | exact hext hy hHeld | exact hHeld)
        clear hK K hHeld
        have hHeld := hHeld2
        clear hHeld2
        (try simp only [Act.put, List.getElem_toArray, List.getElem_cons_succ, List.getElem_cons_zero, List.setIfInBounds_toArray, List.set_cons_zero, List.set_cons_succ])
        refine wpAnyH_ready (rs := [3]) (by kernel_rfl) (by simp) ?_
        refine AllReadyH.cons (o := _) rfl (fun K hK => ?_) ?_
        · go_simp
          (with_reducible refine (same_dec hvm.val (HBV.out.ext hE)).mono ?_); rintro e z2 ⟨rfl, hy⟩; rw [HF.out]; have hE := hE.trans hy
          refine hK.out _ _ ?_ (fun hHeld2 => ?_)
          · (first | exact s0 | exact hext hy hHeld | exact hHeld)
          clear hK K hHeld
          have hHeld := hHeld2
          clear hHeld2
          (try simp only [Act.put, List.getElem_toArray, List.getElem_cons_succ, List.getElem_cons_zero, List.setIfInBounds_toArray, List.set_cons_zero, List.set_cons_succ])
          refine wpAnyH_take (i := 4) (oi := _) (v := ?_) rfl (by kernel_rfl) (by kernel_rfl) (by kernel_rfl) (fun _ _ _ h => h) (Or.inl ⟨by rfl, ?_⟩) (by assumption) ?_
          rotate_left
          · (intro w hSw; (try dsimp only at hSw); (try go_simp); (try with_reducible rfl))
          (try simp only [Act.put, List.getElem_toArray, List.getElem_cons_succ, List.getElem_cons_zero, List.setIfInBounds_toArray, List.set_cons_zero, List.set_cons_succ])
          refine wpAnyH_done (by kernel_rfl) ?_ _
          rw [HZ.out]
          cases hfit : fitI z
          · have HFV := Lib.hid (show fitV z = 0 by unfold fitV; rw [hfit]; rfl)
            have HFI := Lib.hid hfit
            clear hfit
            go_wp2_with fail
            refine bodyPost_ret (v := .tuple #[.int .i64 0, .bool false, .int .i64 0]) (by simp [results, Tryd.results29, go_sem]) rfl ?_
            exact ⟨by rw [HZ.out, HFV.out, HFI.out], hx2.out.trans hE⟩
          · have HFV := Lib.hid (show fitV z = v by
              have h := HF.out
              rw [hfit, decide_eq_true_eq] at h
              unfold fitV; rw [if_pos hfit, h])
            have HFI := Lib.hid hfit
            clear hfit
            go_wp2_with fail
            refine bodyPost_ret (v := .tuple #[.int .i64 v, .bool true, .int .i64 0]) (by simp [results, Tryd.results29, go_sem]) rfl ?_
            exact ⟨by rw [HZ.out, HFV.out, HFI.out], hx2.out.trans hE⟩
        exact AllReadyH.nil
      exact AllReadyH.nil
    | succ i =>
      have hin : i < 3 := by omega
      obtain ⟨bb, oo, rfl⟩ := HI.out.head (i := i) (by rw [HL.out]; exact hin)
      obtain ⟨x, hxx⟩ : ∃ x, l.getD i 0 = x := ⟨_, rfl⟩
      have hst := sgn_step (neg := true) (l := l) (i := i) (by rw [HL.out]; exact hin)
      rw [hxx] at hst
      simp only [if_true, Bool.false_eq_true, if_false] at hst
      have hbt := (ref_bits (sgn true (dval (l.drop (i + 1)))) x true).1 rfl
      rw [← hst] at hbt
      have HST := Lib.hid hst
      obtain ⟨v, hv⟩ : ∃ v, wrap64 (sgn true (dval (l.drop (i + 1)))) = v := ⟨_, rfl⟩
      obtain ⟨v2, hv2⟩ : ∃ v, wrap64 (sgn true (dval (l.drop i))) = v := ⟨_, rfl⟩
      rw [hv, hv2] at hbt
      rw [hv]
      have HV2 := Lib.hid hv2
      have e1 : wr.cell? ⟨bb, oo + i, none⟩ = some (.int .i64 x) := by
        rw [((HI.out.ext hx2.out).cell (i := i) (by rw [HL.out]; exact hin)).1, ← hxx]
        simp [List.getD, List.getElem?_eq_getElem (show i < l.length by rw [HL.out]; exact hin)]
      have hi1 : ((i + 1 : Nat) : Int) - 1 = (i : Int) := by omega
      rw [hi1]
      have e2 : wr.cell? ⟨bb, oo + 2, none⟩ = some (.int .i64 t) := by
        rw [((HI.out.ext hx2.out).cell (i := 2) (by rw [HL.out]; omega)).1, ← HT.out]
        simp [List.getD, List.getElem?_eq_getElem (show 2 < l.length by rw [HL.out]; omega)]
      have g1 : (0 : Int) ≤ (i : Int) := by omega
      have g2 : (i : Int) < (3 : Int) := by omega
      clear hst hv hv2 hxx hi1
      by_cases h0 : i = 0
      · subst h0
        have e1 : wr.cell? ⟨bb, oo, none⟩ = some (.int .i64 x) := e1
        go_wp2_with fail
        go_roundg 0
        case measure => omega
        case rel => exact ⟨by rw [HV2.out, hbt], by go_num, by omega, rfl⟩
      · have t0 : ((i : Int) == 0) = false := by simp only [beq_eq_false_iff_ne]; omega
        have t0b : (i == 0) = false := by simpa using h0
        have HI0 := Lib.hid h0
        clear h0
        go_wp2_with fail
        go_roundg i
        case measure => omega
        case rel => exact ⟨by rw [HV2.out, hbt], by go_num, by omega, rfl⟩

set_option maxHeartbeats 2000000 in
theorem ref_Int_tgt (a : Option Addr) (ca : Nat) (l : List Int) (w : World) (h : Ints w a ca l) (hb : chkB true l = true) (h1 : l.length = 3) (h8 : 8 < l.getD 2 0) :
    Calls Tryd.prog 29 #[.agg #[.bool true, .slice a 3 ca]] w (IntP 0 false 0 w) := by
  have hbig := (of_chk hb).1
  have hle1 := h.le
  have hmx1 := h.mx
  rw [h1] at hle1
  have hx : Ext w (w.alloc (.cells #[.bool true, .slice a 3 ca] 24)) := (by repeat (first | with_reducible exact Ext.refl _ | with_reducible assumption | with_reducible refine Ext.drewN ?_ _ | with_reducible refine Ext.drew ?_ | with_reducible refine Ext.alloc' ?_ _ | with_reducible refine Ext.set ?_ (by dsimp only; omega) _))
  have HC := ref_Check true a ca l _ (h.ext hx)
  rw [hb, h1] at HC
  have HC := Lib.hid HC
  have X1 := Lib.hid (Blk.new0 w #[.bool true, .slice a 3 ca] 24)
  have c0 := X1.out.cell (i := 0) (v := .bool true) rfl
  have c1 := X1.out.cell (i := 1) (v := .slice a 3 ca) rfl
  have HL := Lib.hid h1
  have HI := Lib.hid h
  have HBG := Lib.hid hbig
  obtain ⟨t, ht⟩ : ∃ t, l.getD 2 0 = t := ⟨_, rfl⟩
  have HT := Lib.hid ht
  rw [ht] at h8
  have t8 : decide (8 < t) = true := by simp only [decide_eq_true_eq]; omega
  clear ht h8
  clear h1 h hb hbig
  go_enter Tryd.func29, Tryd.ntmps29
  go_upto_region 1 with fail
  generalize w.alloc (.cells #[.bool true, .slice a 3 ca] 24) = w1 at *
  go_wp2_with fail
  refine HC.out.mono ?_
  rintro e w2 ⟨rfl, hy⟩
  have X2 := Lib.hid (X1.out.ext hy)
  have hx2 := Lib.hid (hx.trans hy)
  have d0 := X2.out.cell (i := 0) (v := .bool true) rfl
  have d1 := X2.out.cell (i := 1) (v := .slice a 3 ca) rfl
  clear c0 c1 HC hy hx
  go_wp2_with fail
  go_loopg [6, 7] 3 (fun k v6 v7 wr => v6 = .int .i64 (wrap64 (sgn true (dval (l.drop k)))) ∧ v7 = .int .i64 ((k : Int) - 1) ∧ k ≤ 3 ∧ 1 ≤ k ∧ wr = w2)
  case atStart =>
    refine ⟨?_, by go_num, Nat.le_refl _, by omega, rfl⟩
    rw [List.drop_eq_nil_of_le (by rw [HL.out]; exact Nat.le_refl _)]
    exact congrArg (Value.int IntKind.i64) (by simp [dval, sgn, wrap64])
  case round =>
    obtain ⟨rfl, rfl, hk, hk1, rfl⟩ := hrel
    obtain ⟨kk, rfl⟩ : ∃ kk, kk = gk := ⟨gk, rfl⟩
    cases kk with
    | zero =>
      omega
    | succ i =>
      have hin : i < 3 := by omega
      obtain ⟨bb, oo, rfl⟩ := HI.out.head (i := i) (by rw [HL.out]; exact hin)
      obtain ⟨x, hxx⟩ : ∃ x, l.getD i 0 = x := ⟨_, rfl⟩
      have hst := sgn_step (neg := true) (l := l) (i := i) (by rw [HL.out]; exact hin)
      rw [hxx] at hst
      simp only [if_true, Bool.false_eq_true, if_false] at hst
      have hbt := (ref_bits (sgn true (dval (l.drop (i + 1)))) x true).1 rfl
      rw [← hst] at hbt
      have HST := Lib.hid hst
      obtain ⟨v, hv⟩ : ∃ v, wrap64 (sgn true (dval (l.drop (i + 1)))) = v := ⟨_, rfl⟩
      obtain ⟨v2, hv2⟩ : ∃ v, wrap64 (sgn true (dval (l.drop i))) = v := ⟨_, rfl⟩
      rw [hv, hv2] at hbt
      rw [hv]
      have HV2 := Lib.hid hv2
      have e1 : wr.cell? ⟨bb, oo + i, none⟩ = some (.int .i64 x) := by
        rw [((HI.out.ext hx2.out).cell (i := i) (by rw [HL.out]; exact hin)).1, ← hxx]
        simp [List.getD, List.getElem?_eq_getElem (show i < l.length by rw [HL.out]; exact hin)]
      have hi1 : ((i + 1 : Nat) : Int) - 1 = (i : Int) := by omega
      rw [hi1]
      have e2 : wr.cell? ⟨bb, oo + 2, none⟩ = some (.int .i64 t) := by
        rw [((HI.out.ext hx2.out).cell (i := 2) (by rw [HL.out]; omega)).1, ← HT.out]
        simp [List.getD, List.getElem?_eq_getElem (show 2 < l.length by rw [HL.out]; omega)]
      have g1 : (0 : Int) ≤ (i : Int) := by omega
      have g2 : (i : Int) < (3 : Int) := by omega
      clear hst hv hv2 hxx hi1
      by_cases h0 : i = 0
      · subst h0
        have e1 : wr.cell? ⟨bb, oo, none⟩ = some (.int .i64 x) := e1
        go_wp2_with fail
        refine bodyPost_ret (v := .tuple #[.int .i64 0, .bool false, .int .i64 0]) (by simp [results, Tryd.results29, go_sem]) rfl ?_
        exact ⟨rfl, hx2.out⟩
      · have t0 : ((i : Int) == 0) = false := by simp only [beq_eq_false_iff_ne]; omega
        have t0b : (i == 0) = false := by simpa using h0
        have HI0 := Lib.hid h0
        clear h0
        go_wp2_with fail
        go_roundg i
        case measure => omega
        case rel => exact ⟨by rw [HV2.out, hbt], by go_num, by omega, by have := HI0.out; omega, rfl⟩

theorem ref_Int_ok (neg : Bool) (a : Option Addr) (ca : Nat) (l : List Int) (w : World) (h : Ints w a ca l) (hb : chkB neg l = true) :
    Calls Tryd.prog 29 #[.agg #[.bool neg, .slice a l.length ca]] w (IntP (fitV (sgn neg (dval l))) (fitI (sgn neg (dval l))) 0 w) := by
  by_cases h3 : l.length < 3
  · cases neg
    · exact ref_Int_flt l.length a ca l w h hb rfl h3
    · exact ref_Int_tlt l.length a ca l w h hb rfl h3
  · by_cases h4 : l.length = 3
    · by_cases h8 : l.getD 2 0 ≤ 8
      · cases neg
        · have := ref_Int_fle a ca l w h hb h4 h8
          rw [h4]; exact this
        · have := ref_Int_tle a ca l w h hb h4 h8
          rw [h4]; exact this
      · rw [(early_big (neg := neg) (chk_iff.1 hb).2.2 (.inr ⟨h4, by omega⟩)).1, (early_big (neg := neg) (chk_iff.1 hb).2.2 (.inr ⟨h4, by omega⟩)).2]
        cases neg
        · have := ref_Int_fgt a ca l w h hb h4 (by omega)
          rw [h4]; exact this
        · have := ref_Int_tgt a ca l w h hb h4 (by omega)
          rw [h4]; exact this
    · rw [(early_big (neg := neg) (chk_iff.1 hb).2.2 (.inl (by omega))).1, (early_big (neg := neg) (chk_iff.1 hb).2.2 (.inl (by omega))).2]
      exact ref_Int_long neg a ca l w h hb (by omega)
end Go.Proofs.YtpaaanbcadlhiaaDoor
