import Derived.Test.YtpaaanbcadlhiaaDoorPMul
namespace Go.Proofs.YtpaaanbcadlhiaaDoor
open Go.RowKit Go BigFrame Go.Shelf
set_option maxRecDepth 100000
set_option linter.unusedSimpArgs false

set_option maxHeartbeats 1000000 in
theorem ref_trim (a : Option Addr) (cap : Nat) (l : List Int) (w : World) (h : Ints w a cap l) :
    Calls Tryd.prog 66 #[.slice a l.length cap] w fun e w' => e = .returned (.slice a (trimL l).length cap) ∧ w = w' := by
  have hle := h.le
  have hmx := h.mx
  go_enter Tryd.func66, Tryd.ntmps66
  go_wp2_with fail
  go_loop [3] (fun n => ∃ k : Nat, k ≤ l.length ∧ n = .int .i64 k ∧ trimL (l.take k) = trimL l) (fun n => (intOf n).toNat)
  case atStart => exact ⟨l.length, Nat.le_refl _, rfl, by rw [List.take_length]⟩
  case round =>
    obtain ⟨k, hk, rfl, ht⟩ := hrel
    by_cases hk0 : 0 < k
    · obtain ⟨j, rfl⟩ : ∃ j, k = j + 1 := ⟨k - 1, by omega⟩
      obtain ⟨b, o, rfl⟩ := h.head (i := j) (by omega)
      obtain ⟨x, hx, hc, _⟩ := Ints.get h (i := j) (by omega)
      have hT := take_get hx
      have d1 : decide (0 < ((j + 1 : Nat) : Int)) = true := by simp only [decide_eq_true_eq]; omega
      have d1' : decide (0 < j + 1) = true := by simp
      have d2 : ((j + 1 : Nat) : Int) - 1 = (j : Int) := by omega
      have g1 : (0 : Int) ≤ (j : Int) := by omega
      have g2 : (j : Int) < (l.length : Int) := by omega
      by_cases h0 : x = 0
      · subst h0
        have HT := Lib.hid (show trimL (l.take j) = trimL l by rw [← ht, hT, trim_snoc0])
        clear ht hT hx
        go_wp2_with fail
        go_round
        case rel => exact ⟨j, by omega, by go_num, HT.out⟩
        case measure => simp [intOf]
      · have d3 : (x == 0) = false := by simpa using h0
        have HT := Lib.hid (show (trimL l).length = j + 1 by rw [← ht, hT, trim_snoc _ h0, List.length_append, List.length_take]; simp only [List.length_singleton]; omega)
        clear ht hT hx h0
        go_wp2_with fail
        go_ret
        exact ⟨by rw [HT.out]; rfl, rfl⟩
    · obtain rfl : k = 0 := by omega
      have HT := Lib.hid (show (trimL l).length = 0 by rw [← ht]; rfl)
      clear ht
      go_wp2_with fail
      go_ret
      exact ⟨by rw [HT.out]; rfl, rfl⟩
theorem ref_digit (a : Option Addr) (cap : Nat) (l : List Int) (i : Nat) (w : World) (h : Ints w a cap l) :
    Calls Tryd.prog 63 #[.slice a l.length cap, .int .i64 i] w fun e w' => e = .returned (.int .i64 (l.getD i 0)) ∧ w = w' := by
  have hle := h.le
  have hmx := h.mx
  by_cases hi : i < l.length
  · have d1 : decide ((i : Int) < (l.length : Int)) = true := by simp only [decide_eq_true_eq]; omega
    obtain ⟨b, o, rfl⟩ := h.head hi
    obtain ⟨x, hx, hc, _⟩ := Ints.get h hi
    have HX := Lib.hid (getD_of hx)
    have g1 : (0 : Int) ≤ (i : Int) := by omega
    have g2 : (i : Int) < (l.length : Int) := by omega
    clear hx
    go_enter Tryd.func63, Tryd.ntmps63
    go_wp2_with fail
    go_ret
    exact ⟨by rw [HX.out]; rfl, rfl⟩
  · have d1 : decide ((i : Int) < (l.length : Int)) = false := by simp only [decide_eq_false_iff_not]; omega
    have HX := Lib.hid (getD_off (l := l) (i := i) (by omega))
    go_enter Tryd.func63, Tryd.ntmps63
    go_wp2_with fail
    go_ret
    exact ⟨by rw [HX.out]; rfl, rfl⟩


theorem cell_later {w w' : World} (h : Ext w w') {b o : Nat} {v : Value} (e : w.cell? ⟨b, o, none⟩ = some v) : w'.cell? ⟨b, o, none⟩ = some v := (h.cell (p := ⟨b, o, none⟩) (lt_of_cell e)).trans e
set_option maxHeartbeats 2000000 in
theorem ref_cmp_len (a b : Option Addr) (ca cb : Nat) (l m : List Int) (w : World) (hl : Norm l) (hm : Norm m) (hne : l.length ≠ m.length) :
    Calls Tryd.prog 71 #[.slice a l.length ca, .slice b m.length cb] w fun e w' => e = .returned (.int .i64 (cmpI (dval l) (dval m))) ∧ Ext w w' := by
  have d1 : ((l.length : Int) != (m.length : Int)) = true := by simp only [bne_iff_ne, ne_eq]; omega
  by_cases hlt : l.length < m.length
  · have d2 : decide ((l.length : Int) < (m.length : Int)) = true := by simp only [decide_eq_true_eq]; omega
    have HV := Lib.hid (cmpI_lt (dval_shorter hl.digs hm hlt))
    clear hl hm hne
    go_enter Tryd.func71, Tryd.ntmps71
    go_wp2_with fail
    go_ret
    exact ⟨by rw [HV.out]; rfl, Ext.refl _⟩
  · have d2 : decide ((l.length : Int) < (m.length : Int)) = false := by simp only [decide_eq_false_iff_not]; omega
    have HV := Lib.hid (cmpI_gt (dval_shorter hm.digs hl (by omega)))
    clear hl hm hne
    go_enter Tryd.func71, Tryd.ntmps71
    go_wp2_with fail
    go_ret
    exact ⟨by rw [HV.out]; rfl, Ext.refl _⟩
set_option maxHeartbeats 4000000 in
theorem ref_cmp_eq (n : Nat) (a b : Option Addr) (ca cb : Nat) (l m : List Int) (w : World) (h : Ints w a ca l) (k : Ints w b cb m) (hl : Norm l) (hm : Norm m) (h1 : l.length = n) (h2 : m.length = n) :
    Calls Tryd.prog 71 #[.slice a n ca, .slice b n cb] w fun e w' => e = .returned (.int .i64 (cmpI (dval l) (dval m))) ∧ Ext w w' := by
  have hle1 := h.le
  have hmx1 := h.mx
  rw [h1] at hle1
  have HL := Lib.hid h1
  have HM := Lib.hid h2
  have HI := Lib.hid h
  have HI2 := Lib.hid k
  have HN1 := Lib.hid hl
  have HN2 := Lib.hid hm
  clear h1 h2 h k hl hm
  go_enter Tryd.func71, Tryd.ntmps71
  go_wp2_with fail
  go_loopw [5] (fun i wr => ∃ k : Nat, k ≤ n ∧ i = .int .i64 ((k : Int) - 1) ∧ l.drop k = m.drop k ∧ Ext w wr) (fun i _ => (intOf i + 1).toNat)
  case atStart => exact ⟨n, Nat.le_refl _, rfl, by rw [List.drop_eq_nil_of_le (by rw [HL.out]; exact Nat.le_refl _), List.drop_eq_nil_of_le (by rw [HM.out]; exact Nat.le_refl _)], Ext.refl _⟩
  case round =>
    obtain ⟨k, hk, rfl, hd, hxr⟩ := hrel
    by_cases hk0 : 0 < k
    · obtain ⟨i, rfl⟩ : ∃ i, k = i + 1 := ⟨k - 1, by omega⟩
      have ei : ((i + 1 : Nat) : Int) - 1 = (i : Int) := by omega
      rw [ei]
      have hin : i < n := by omega
      obtain ⟨b1, o1, rfl, ha⟩ := HI.out.atN HL.out hin
      obtain ⟨b2, o2, rfl, hb⟩ := HI2.out.atN HM.out hin
      have ha := ha i hin
      have hb := hb i hin
      obtain ⟨x, hx⟩ : ∃ x, l.getD i 0 = x := ⟨_, rfl⟩
      obtain ⟨y, hy⟩ : ∃ y, m.getD i 0 = y := ⟨_, rfl⟩
      rw [hx] at ha
      rw [hy] at hb
      have L1 := later_cell ((hxr.cell (p := ⟨b1, o1 + i, none⟩) (lt_of_cell ha)).trans ha)
      have L2 := later_cell ((hxr.cell (p := ⟨b2, o2 + i, none⟩) (lt_of_cell hb)).trans hb)
      have HX := Lib.hid hx
      have HY := Lib.hid hy
      have HD := Lib.hid hd
      have g1 : (0 : Int) ≤ (i : Int) := by omega
      have g2 : (i : Int) < (n : Int) := by omega
      clear ha hb hx hy hd ei hk0
      rcases Int.lt_trichotomy x y with hxy | hxy | hxy
      · have t1 : decide (x < y) = true := by simpa using hxy
        have HV := Lib.hid (cmpI_lt (dval_drop_lt HN1.out.digs HN2.out.digs (by rw [HL.out, HM.out]) (by rw [HL.out]; exact hin) HD.out (by rw [HX.out, HY.out]; exact hxy)))
        go_upto_region 8 with fail
        refine wp_region_later (by kernel_rfl) (by kernel_rfl) ?_; repeat (go_big_quiet_step (fail))
        refine wpQuiet_nil ?_; rintro _ ⟨⟨W1, HW1⟩, rfl⟩; (try dsimp only)
        go_wp2_with fail
        go_ret
        exact ⟨by rw [HV.out]; rfl, hxr.trans HW1⟩
      · subst hxy
        have t1 : decide (x < x) = false := by simp
        go_upto_region 8 with fail
        refine wp_region_later (by kernel_rfl) (by kernel_rfl) ?_; repeat (go_big_quiet_step (fail))
        refine wpQuiet_nil ?_; rintro w7 ⟨⟨W2, HW2⟩, rfl⟩; (try dsimp only)
        have M1 := later_cell (cell_later HW2 (L1 ⟨_, Ext.refl _⟩))
        have M2 := later_cell (cell_later HW2 (L2 ⟨_, Ext.refl _⟩))
        clear L1 L2
        go_upto_region 10 with fail
        refine wp_region_later (by kernel_rfl) (by kernel_rfl) ?_; repeat (go_big_quiet_step (fail))
        refine wpQuiet_nil ?_; rintro w8 ⟨⟨W3, HW3⟩, rfl⟩; (try dsimp only)
        go_wp2_with fail
        go_roundw
        case rel => exact ⟨i, by omega, rfl, by rw [drop_get (l := l) (by rw [HL.out]; exact hin), drop_get (l := m) (by rw [HM.out]; exact hin), HX.out, HY.out, HD.out], hxr.trans (HW2.trans HW3)⟩
        case measure => first | (simp [intOf]; done) | (simp [intOf]; omega)
      · have t1 : decide (x < y) = false := by simp only [decide_eq_false_iff_not]; omega
        have t2 : decide (y < x) = true := by simpa using hxy
        have HV := Lib.hid (cmpI_gt (dval_drop_lt HN2.out.digs HN1.out.digs (by rw [HL.out, HM.out]) (by rw [HM.out]; exact hin) HD.out.symm (by rw [HX.out, HY.out]; exact hxy)))
        go_upto_region 8 with fail
        refine wp_region_later (by kernel_rfl) (by kernel_rfl) ?_; repeat (go_big_quiet_step (fail))
        refine wpQuiet_nil ?_; rintro w7 ⟨⟨W2, HW2⟩, rfl⟩; (try dsimp only)
        have M1 := later_cell (cell_later HW2 (L1 ⟨_, Ext.refl _⟩))
        have M2 := later_cell (cell_later HW2 (L2 ⟨_, Ext.refl _⟩))
        clear L1 L2
        go_upto_region 10 with fail
        refine wp_region_later (by kernel_rfl) (by kernel_rfl) ?_; repeat (go_big_quiet_step (fail))
        refine wpQuiet_nil ?_; rintro w8 ⟨⟨W3, HW3⟩, rfl⟩; (try dsimp only)
        go_wp2_with fail
        go_ret
        exact ⟨by rw [HV.out]; rfl, hxr.trans (HW2.trans HW3)⟩
    · obtain rfl : k = 0 := by omega
      have hlm : l = m := by simpa using hd
      subst hlm
      have HV := Lib.hid (cmpI_eq (dval l))
      go_wp2_with fail
      go_ret
      exact ⟨by rw [HV.out]; rfl, hxr⟩
theorem ref_cmp (a b : Option Addr) (ca cb : Nat) (l m : List Int) (w : World) (h : Ints w a ca l) (k : Ints w b cb m) (hl : Norm l) (hm : Norm m) :
    Calls Tryd.prog 71 #[.slice a l.length ca, .slice b m.length cb] w fun e w' => e = .returned (.int .i64 (cmpI (dval l) (dval m))) ∧ Ext w w' := by
  by_cases he : l.length = m.length
  · have := ref_cmp_eq m.length a b ca cb l m w h k hl hm he rfl
    rw [he]; exact this
  · exact ref_cmp_len a b ca cb l m w hl hm he
end Go.Proofs.YtpaaanbcadlhiaaDoor
