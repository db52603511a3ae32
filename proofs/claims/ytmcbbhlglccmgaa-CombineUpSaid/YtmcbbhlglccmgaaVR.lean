import Derived.Test.YtmcbbhlglccmgaaV9
import Derived.Test.YtmcbbhlglccmgaaQ5
import Derived.Test.YtmcbbhlglccmgaaQS
namespace Go.Proofs.Ytmcbbhlglccmgaa
open Go.RowKit Go BigFrame
set_option maxRecDepth 100000
set_option linter.unusedSimpArgs false
set_option linter.unusedVariables false

/-! law16.right, compare. -/
def rtB (c : CritA) (l : List Int) : Bool := rightC c && (decide (0 < l.length) && (decide (l.length ≤ 20) && (!(decide (c.how = 2) && decide ((l.length : Int) ≤ 2 * c.tr)) && onAll c l)))
structure RtB (c : CritA) (l : List Int) : Prop where
  r : rightC c = true
  p : 0 < l.length
  m : l.length ≤ 20
  t : ¬ (l.length : Int) ≤ 2 * c.tr
  on : ∀ x ∈ l, onC c x = true
theorem rtB_yes {c : CritA} {l : List Int} (h : rtB c l = true) : RtB c l := by
  simp only [rtB, Bool.and_eq_true, Bool.not_eq_true', decide_eq_true_eq] at h
  obtain ⟨h1, h2, h3, h4, h5⟩ := h
  refine ⟨h1, h2, h3, fun h6 => ?_, onAll_iff.1 h5⟩
  have hr := rightC_iff.1 h1
  rcases hr.mn with h7 | h7
  · rw [decide_eq_true h7, decide_eq_true h6] at h4; simp at h4
  · omega
set_option maxHeartbeats 4000000 in
theorem law16_right_wrong (c : CritA) (hc : c.In) (a : Option Addr) (cap : Nat) (l : List Int) (w : World) (h : Ints w a cap l) (hr : rightC c = false) :
    Calls Try.prog 26 #[c.val, .slice a l.length cap] w fun e w' => e = .returned (.bool false) ∧ Ext w w' := by
  have hle := h.le
  have hmx := h.mx
  have HC := Lib.hid (ref16_Right c hc)
  rw [hr] at HC
  clear h hr
  obtain ⟨nm, lo, hi, st, how, tr, rv⟩ := c
  dsimp only [CritA.val, CritA.cells] at *

  clear hc
  obtain ⟨x1, hw, hx, Kc⟩ := boxQ1 w #[.string nm, .int .i64 lo, .int .i64 hi, .int .i64 st, .int .i64 how, .int .i64 tr, .bool rv] 48
  replace hw := Lib.hid hw
  go_enter Try.func26, Try.ntmps26
  go_upto_region 1 with fail
  try simp only [Nat.add_assoc, Nat.reduceAdd, Nat.add_zero]
  rw [hw.out]
  clear hw
  have hs0 := hx.size
  have cc0 := Kc.out.cell (i := 0) (v := .string nm) rfl
  have cc1 := Kc.out.cell (i := 1) (v := .int .i64 lo) rfl
  have cc2 := Kc.out.cell (i := 2) (v := .int .i64 hi) rfl
  have cc3 := Kc.out.cell (i := 3) (v := .int .i64 st) rfl
  have cc4 := Kc.out.cell (i := 4) (v := .int .i64 how) rfl
  have cc5 := Kc.out.cell (i := 5) (v := .int .i64 tr) rfl
  have cc6 := Kc.out.cell (i := 6) (v := .bool rv) rfl
  go_wp2_with fail
  with_reducible refine (HC.out _).mono ?_
  clear cc0 cc1 cc2 cc3 cc4 cc5 cc6
  rintro e x2 ⟨rfl, hy⟩
  replace hx := hx.trans hy
  replace Kc := kE Kc hy
  clear hy
  clear HC
  go_wp2_with fail
  go_ret
  exact ⟨rfl, hx⟩
set_option maxHeartbeats 4000000 in
theorem law16_right_none (c : CritA) (hc : c.In) (a : Option Addr) (cap : Nat) (l : List Int) (w : World) (h : Ints w a cap l) (hr : rightC c = true) (hl : l.length = 0) :
    Calls Try.prog 26 #[c.val, .slice a l.length cap] w fun e w' => e = .returned (.bool false) ∧ Ext w w' := by
  have hle := h.le
  have hmx := h.mx
  have HC := Lib.hid (ref16_Right c hc)
  have hrr := rightC_iff.1 hr
  rw [hr] at HC
  have tr1 := hrr.tr
  have tr2 := hrr.tm
  clear h hr hrr
  obtain ⟨nm, lo, hi, st, how, tr, rv⟩ := c
  dsimp only [CritA.val, CritA.cells] at *
  replace hl := Lib.hid hl
  clear hc
  obtain ⟨x1, hw, hx, Kc⟩ := boxQ1 w #[.string nm, .int .i64 lo, .int .i64 hi, .int .i64 st, .int .i64 how, .int .i64 tr, .bool rv] 48
  replace hw := Lib.hid hw
  go_enter Try.func26, Try.ntmps26
  go_upto_region 1 with fail
  try simp only [Nat.add_assoc, Nat.reduceAdd, Nat.add_zero]
  rw [hw.out]
  clear hw
  have hs0 := hx.size
  have cc0 := Kc.out.cell (i := 0) (v := .string nm) rfl
  have cc1 := Kc.out.cell (i := 1) (v := .int .i64 lo) rfl
  have cc2 := Kc.out.cell (i := 2) (v := .int .i64 hi) rfl
  have cc3 := Kc.out.cell (i := 3) (v := .int .i64 st) rfl
  have cc4 := Kc.out.cell (i := 4) (v := .int .i64 how) rfl
  have cc5 := Kc.out.cell (i := 5) (v := .int .i64 tr) rfl
  have cc6 := Kc.out.cell (i := 6) (v := .bool rv) rfl
  go_wp2_with fail
  with_reducible refine (HC.out _).mono ?_
  clear cc0 cc1 cc2 cc3 cc4 cc5 cc6
  rintro e x2 ⟨rfl, hy⟩
  replace hx := hx.trans hy
  replace Kc := kE Kc hy
  clear hy
  clear HC
  have t1 : ((l.length : Int) == 0) = true := by simp [hl.out]
  have t1n : l = [] := List.eq_nil_of_length_eq_zero hl.out
  have cc0 := Kc.out.cell (i := 0) (v := .string nm) rfl
  have cc1 := Kc.out.cell (i := 1) (v := .int .i64 lo) rfl
  have cc2 := Kc.out.cell (i := 2) (v := .int .i64 hi) rfl
  have cc3 := Kc.out.cell (i := 3) (v := .int .i64 st) rfl
  have cc4 := Kc.out.cell (i := 4) (v := .int .i64 how) rfl
  have cc5 := Kc.out.cell (i := 5) (v := .int .i64 tr) rfl
  have cc6 := Kc.out.cell (i := 6) (v := .bool rv) rfl
  go_wp2_with fail
  go_ret
  exact ⟨rfl, hx⟩
set_option maxHeartbeats 4000000 in
theorem law16_right_many (c : CritA) (hc : c.In) (a : Option Addr) (cap : Nat) (l : List Int) (w : World) (h : Ints w a cap l) (hr : rightC c = true) (hl : 20 < l.length) :
    Calls Try.prog 26 #[c.val, .slice a l.length cap] w fun e w' => e = .returned (.bool false) ∧ Ext w w' := by
  have hle := h.le
  have hmx := h.mx
  have HC := Lib.hid (ref16_Right c hc)
  have hrr := rightC_iff.1 hr
  rw [hr] at HC
  have tr1 := hrr.tr
  have tr2 := hrr.tm
  clear h hr hrr
  obtain ⟨nm, lo, hi, st, how, tr, rv⟩ := c
  dsimp only [CritA.val, CritA.cells] at *

  clear hc
  obtain ⟨x1, hw, hx, Kc⟩ := boxQ1 w #[.string nm, .int .i64 lo, .int .i64 hi, .int .i64 st, .int .i64 how, .int .i64 tr, .bool rv] 48
  replace hw := Lib.hid hw
  go_enter Try.func26, Try.ntmps26
  go_upto_region 1 with fail
  try simp only [Nat.add_assoc, Nat.reduceAdd, Nat.add_zero]
  rw [hw.out]
  clear hw
  have hs0 := hx.size
  have cc0 := Kc.out.cell (i := 0) (v := .string nm) rfl
  have cc1 := Kc.out.cell (i := 1) (v := .int .i64 lo) rfl
  have cc2 := Kc.out.cell (i := 2) (v := .int .i64 hi) rfl
  have cc3 := Kc.out.cell (i := 3) (v := .int .i64 st) rfl
  have cc4 := Kc.out.cell (i := 4) (v := .int .i64 how) rfl
  have cc5 := Kc.out.cell (i := 5) (v := .int .i64 tr) rfl
  have cc6 := Kc.out.cell (i := 6) (v := .bool rv) rfl
  go_wp2_with fail
  with_reducible refine (HC.out _).mono ?_
  clear cc0 cc1 cc2 cc3 cc4 cc5 cc6
  rintro e x2 ⟨rfl, hy⟩
  replace hx := hx.trans hy
  replace Kc := kE Kc hy
  clear hy
  clear HC
  have t1 : ((l.length : Int) == 0) = false := beq_false_of_ne (by omega)
  have t1n : ¬ l = [] := List.ne_nil_of_length_pos (by omega)
  have t2 : decide ((20 : Int) < (l.length : Int)) = true := decide_eq_true (by omega)
  have cc0 := Kc.out.cell (i := 0) (v := .string nm) rfl
  have cc1 := Kc.out.cell (i := 1) (v := .int .i64 lo) rfl
  have cc2 := Kc.out.cell (i := 2) (v := .int .i64 hi) rfl
  have cc3 := Kc.out.cell (i := 3) (v := .int .i64 st) rfl
  have cc4 := Kc.out.cell (i := 4) (v := .int .i64 how) rfl
  have cc5 := Kc.out.cell (i := 5) (v := .int .i64 tr) rfl
  have cc6 := Kc.out.cell (i := 6) (v := .bool rv) rfl
  go_wp2_with fail
  go_ret
  exact ⟨rfl, hx⟩
set_option maxHeartbeats 4000000 in
theorem law16_right_few (c : CritA) (hc : c.In) (a : Option Addr) (cap : Nat) (l : List Int) (w : World) (h : Ints w a cap l) (hr : rightC c = true) (hl : 0 < l.length) (hl2 : l.length ≤ 20) (hh : c.how = 2) (ht : (l.length : Int) ≤ 2 * c.tr) :
    Calls Try.prog 26 #[c.val, .slice a l.length cap] w fun e w' => e = .returned (.bool false) ∧ Ext w w' := by
  have hle := h.le
  have hmx := h.mx
  have HC := Lib.hid (ref16_Right c hc)
  have hrr := rightC_iff.1 hr
  rw [hr] at HC
  have tr1 := hrr.tr
  have tr2 := hrr.tm
  clear h hr hrr
  obtain ⟨nm, lo, hi, st, how, tr, rv⟩ := c
  dsimp only [CritA.val, CritA.cells] at *
  subst hh
  clear hc
  obtain ⟨x1, hw, hx, Kc⟩ := boxQ1 w #[.string nm, .int .i64 lo, .int .i64 hi, .int .i64 st, .int .i64 2, .int .i64 tr, .bool rv] 48
  replace hw := Lib.hid hw
  go_enter Try.func26, Try.ntmps26
  go_upto_region 1 with fail
  try simp only [Nat.add_assoc, Nat.reduceAdd, Nat.add_zero]
  rw [hw.out]
  clear hw
  have hs0 := hx.size
  have cc0 := Kc.out.cell (i := 0) (v := .string nm) rfl
  have cc1 := Kc.out.cell (i := 1) (v := .int .i64 lo) rfl
  have cc2 := Kc.out.cell (i := 2) (v := .int .i64 hi) rfl
  have cc3 := Kc.out.cell (i := 3) (v := .int .i64 st) rfl
  have cc4 := Kc.out.cell (i := 4) (v := .int .i64 2) rfl
  have cc5 := Kc.out.cell (i := 5) (v := .int .i64 tr) rfl
  have cc6 := Kc.out.cell (i := 6) (v := .bool rv) rfl
  go_wp2_with fail
  with_reducible refine (HC.out _).mono ?_
  clear cc0 cc1 cc2 cc3 cc4 cc5 cc6
  rintro e x2 ⟨rfl, hy⟩
  replace hx := hx.trans hy
  replace Kc := kE Kc hy
  clear hy
  clear HC
  have t1 : ((l.length : Int) == 0) = false := beq_false_of_ne (by omega)
  have t1n : ¬ l = [] := List.ne_nil_of_length_pos (by omega)
  have t2 : decide ((20 : Int) < (l.length : Int)) = false := decide_eq_false (by omega)
  have t2n : ¬ 20 < l.length := by omega
  have t3 : decide ((l.length : Int) ≤ 2 * tr) = true := decide_eq_true (by omega)
  have cc0 := Kc.out.cell (i := 0) (v := .string nm) rfl
  have cc1 := Kc.out.cell (i := 1) (v := .int .i64 lo) rfl
  have cc2 := Kc.out.cell (i := 2) (v := .int .i64 hi) rfl
  have cc3 := Kc.out.cell (i := 3) (v := .int .i64 st) rfl
  have cc4 := Kc.out.cell (i := 4) (v := .int .i64 2) rfl
  have cc5 := Kc.out.cell (i := 5) (v := .int .i64 tr) rfl
  have cc6 := Kc.out.cell (i := 6) (v := .bool rv) rfl
  go_wp2_with fail
  go_ret
  exact ⟨rfl, hx⟩
set_option maxHeartbeats 4000000 in
theorem law16_right_mean (c : CritA) (hc : c.In) (a : Option Addr) (cap : Nat) (l : List Int) (w : World) (h : Ints w a cap l) (hr : rightC c = true) (hl : 0 < l.length) (hl2 : l.length ≤ 20) (hh : c.how = 2) (ht : ¬ (l.length : Int) ≤ 2 * c.tr) :
    Calls Try.prog 26 #[c.val, .slice a l.length cap] w fun e w' => e = .returned (.bool (onAll c l)) ∧ Ext w w' := by
  have hle := h.le
  have hmx := h.mx
  have HC := Lib.hid (ref16_Right c hc)
  have hrr := rightC_iff.1 hr
  rw [hr] at HC
  have tr1 := hrr.tr
  have tr2 := hrr.tm
  have HI := Lib.hid h
  have HOn := Lib.hid (fun m hm => ref16_On c hc hrr m hm)
  obtain ⟨R, hR⟩ : ∃ R, R = onAll c l := ⟨_, rfl⟩
  rw [← hR]
  replace hR := Lib.hid hR
  clear h hr hrr
  obtain ⟨nm, lo, hi, st, how, tr, rv⟩ := c
  dsimp only [CritA.val, CritA.cells] at *
  subst hh
  clear hc
  obtain ⟨x1, hw, hx, Kc⟩ := boxQ1 w #[.string nm, .int .i64 lo, .int .i64 hi, .int .i64 st, .int .i64 2, .int .i64 tr, .bool rv] 48
  replace hw := Lib.hid hw
  go_enter Try.func26, Try.ntmps26
  go_upto_region 1 with fail
  try simp only [Nat.add_assoc, Nat.reduceAdd, Nat.add_zero]
  rw [hw.out]
  clear hw
  have hs0 := hx.size
  have cc0 := Kc.out.cell (i := 0) (v := .string nm) rfl
  have cc1 := Kc.out.cell (i := 1) (v := .int .i64 lo) rfl
  have cc2 := Kc.out.cell (i := 2) (v := .int .i64 hi) rfl
  have cc3 := Kc.out.cell (i := 3) (v := .int .i64 st) rfl
  have cc4 := Kc.out.cell (i := 4) (v := .int .i64 2) rfl
  have cc5 := Kc.out.cell (i := 5) (v := .int .i64 tr) rfl
  have cc6 := Kc.out.cell (i := 6) (v := .bool rv) rfl
  go_wp2_with fail
  with_reducible refine (HC.out _).mono ?_
  clear cc0 cc1 cc2 cc3 cc4 cc5 cc6
  rintro e x2 ⟨rfl, hy⟩
  replace hx := hx.trans hy
  replace Kc := kE Kc hy
  clear hy
  clear HC
  have t1 : ((l.length : Int) == 0) = false := beq_false_of_ne (by omega)
  have t1n : ¬ l = [] := List.ne_nil_of_length_pos (by omega)
  have t2 : decide ((20 : Int) < (l.length : Int)) = false := decide_eq_false (by omega)
  have t2n : ¬ 20 < l.length := by omega
  have t3 : decide ((l.length : Int) ≤ 2 * tr) = false := decide_eq_false (by omega)
  have cc0 := Kc.out.cell (i := 0) (v := .string nm) rfl
  have cc1 := Kc.out.cell (i := 1) (v := .int .i64 lo) rfl
  have cc2 := Kc.out.cell (i := 2) (v := .int .i64 hi) rfl
  have cc3 := Kc.out.cell (i := 3) (v := .int .i64 st) rfl
  have cc4 := Kc.out.cell (i := 4) (v := .int .i64 2) rfl
  have cc5 := Kc.out.cell (i := 5) (v := .int .i64 tr) rfl
  have cc6 := Kc.out.cell (i := 6) (v := .bool rv) rfl
  go_wp2_with fail
  clear cc0 cc1 cc2 cc3 cc4 cc5 cc6
  have HX := Lib.hid hx
  have HK := Kc
  go_loopw [35] (fun i wr => ∃ k : Nat, k ≤ l.length ∧ i = .int .i64 k ∧ (∀ j, j < k → ∀ x, l[j]? = some x → onC (⟨nm, lo, hi, st, 2, tr, rv⟩ : CritA) x = true) ∧ Ext x2 wr) (fun i _ => l.length - (intOf i).toNat)
  case atStart => exact ⟨0, Nat.zero_le _, rfl, fun j hj => absurd hj (Nat.not_lt_zero _), Ext.refl _⟩
  case round =>
    obtain ⟨k, hk, rfl, hall, hxr⟩ := hrel
    clear hx Kc
    have hx := HX.out.trans hxr
    have Kc := kE HK hxr
    have HA := Lib.hid hall
    have HXR := Lib.hid hxr
    have g0 : (0 : Int) ≤ (k : Int) := by omega
    clear hall hxr HX HK
    by_cases hlt : k < l.length
    · obtain ⟨b, o, rfl⟩ := HI.out.head hlt
      obtain ⟨x, hxk, hcx, hx1, hx2⟩ := Ints.get (HI.out.ext hx) hlt
      have HXK := Lib.hid hxk
      have g1 : (k : Int) < (l.length : Int) := by omega
      clear hxk
      have HO1 := Lib.hid (HOn.out x ⟨hx1, hx2⟩)
      cases ho : onC (⟨nm, lo, hi, st, 2, tr, rv⟩ : CritA) x
      · rw [ho] at HO1
        have HOX := Lib.hid ho
        clear ho
        obtain rfl : R = false := by
          rw [hR.out]
          exact Bool.eq_false_iff.2 (fun e => by have := onAll_iff.1 e x (List.mem_of_getElem? HXK.out); rw [HOX.out] at this; cases this)
        have cc0 := Kc.out.cell (i := 0) (v := .string nm) rfl
        have cc1 := Kc.out.cell (i := 1) (v := .int .i64 lo) rfl
        have cc2 := Kc.out.cell (i := 2) (v := .int .i64 hi) rfl
        have cc3 := Kc.out.cell (i := 3) (v := .int .i64 st) rfl
        have cc4 := Kc.out.cell (i := 4) (v := .int .i64 2) rfl
        have cc5 := Kc.out.cell (i := 5) (v := .int .i64 tr) rfl
        have cc6 := Kc.out.cell (i := 6) (v := .bool rv) rfl
        go_wp2_with fail
        with_reducible refine (HO1.out _).mono ?_
        clear cc0 cc1 cc2 cc3 cc4 cc5 cc6
        rintro e x3 ⟨rfl, hy⟩
        replace hx := hx.trans hy
        replace Kc := kE Kc hy
        clear hy
        go_wp2_with fail
        go_ret
        exact ⟨rfl, hx⟩
      · rw [ho] at HO1
        have HOX := Lib.hid ho
        clear ho
        have cc0 := Kc.out.cell (i := 0) (v := .string nm) rfl
        have cc1 := Kc.out.cell (i := 1) (v := .int .i64 lo) rfl
        have cc2 := Kc.out.cell (i := 2) (v := .int .i64 hi) rfl
        have cc3 := Kc.out.cell (i := 3) (v := .int .i64 st) rfl
        have cc4 := Kc.out.cell (i := 4) (v := .int .i64 2) rfl
        have cc5 := Kc.out.cell (i := 5) (v := .int .i64 tr) rfl
        have cc6 := Kc.out.cell (i := 6) (v := .bool rv) rfl
        go_wp2_with fail
        clear cc0 cc1 cc2 cc3 cc4 cc5 cc6
        with_reducible refine (HO1.out _).mono ?_
        rintro e x3 ⟨rfl, hy⟩
        have HXY := Lib.hid (HXR.out.trans hy)
        replace hx := hx.trans hy
        replace Kc := kE Kc hy
        clear hy
        go_wp2_with fail
        go_roundw
        case rel => exact ⟨k + 1, by omega, by go_num, fun j hj u hu => (by
          by_cases hjk : j < k
          · exact HA.out j hjk u hu
          · obtain rfl : j = k := by omega
            rw [HXK.out] at hu
            cases hu
            exact HOX.out), HXY.out⟩
        case measure => simp [intOf]; omega
    · obtain rfl : k = l.length := by omega
      obtain rfl : R = true := by
        rw [hR.out]
        exact onAll_iff.2 (fun x hx => by
          obtain ⟨j, hj, e⟩ := List.getElem_of_mem hx
          exact HA.out j hj x (by rw [← e]; simp))
      go_wp2_with fail
      go_ret
      exact ⟨rfl, hx⟩
set_option maxHeartbeats 4000000 in
theorem law16_right_other (c : CritA) (hc : c.In) (a : Option Addr) (cap : Nat) (l : List Int) (w : World) (h : Ints w a cap l) (hr : rightC c = true) (hl : 0 < l.length) (hl2 : l.length ≤ 20) (hh : c.how ≠ 2) :
    Calls Try.prog 26 #[c.val, .slice a l.length cap] w fun e w' => e = .returned (.bool (onAll c l)) ∧ Ext w w' := by
  have hle := h.le
  have hmx := h.mx
  have HC := Lib.hid (ref16_Right c hc)
  have hrr := rightC_iff.1 hr
  rw [hr] at HC
  have tr1 := hrr.tr
  have tr2 := hrr.tm
  have HI := Lib.hid h
  have HOn := Lib.hid (fun m hm => ref16_On c hc hrr m hm)
  obtain ⟨R, hR⟩ : ∃ R, R = onAll c l := ⟨_, rfl⟩
  rw [← hR]
  replace hR := Lib.hid hR
  clear h hr hrr
  obtain ⟨nm, lo, hi, st, how, tr, rv⟩ := c
  dsimp only [CritA.val, CritA.cells] at *
  have hhq : (how == 2) = false := beq_false_of_ne hh
  clear hc
  obtain ⟨x1, hw, hx, Kc⟩ := boxQ1 w #[.string nm, .int .i64 lo, .int .i64 hi, .int .i64 st, .int .i64 how, .int .i64 tr, .bool rv] 48
  replace hw := Lib.hid hw
  go_enter Try.func26, Try.ntmps26
  go_upto_region 1 with fail
  try simp only [Nat.add_assoc, Nat.reduceAdd, Nat.add_zero]
  rw [hw.out]
  clear hw
  have hs0 := hx.size
  have cc0 := Kc.out.cell (i := 0) (v := .string nm) rfl
  have cc1 := Kc.out.cell (i := 1) (v := .int .i64 lo) rfl
  have cc2 := Kc.out.cell (i := 2) (v := .int .i64 hi) rfl
  have cc3 := Kc.out.cell (i := 3) (v := .int .i64 st) rfl
  have cc4 := Kc.out.cell (i := 4) (v := .int .i64 how) rfl
  have cc5 := Kc.out.cell (i := 5) (v := .int .i64 tr) rfl
  have cc6 := Kc.out.cell (i := 6) (v := .bool rv) rfl
  go_wp2_with fail
  with_reducible refine (HC.out _).mono ?_
  clear cc0 cc1 cc2 cc3 cc4 cc5 cc6
  rintro e x2 ⟨rfl, hy⟩
  replace hx := hx.trans hy
  replace Kc := kE Kc hy
  clear hy
  clear HC
  have t1 : ((l.length : Int) == 0) = false := beq_false_of_ne (by omega)
  have t1n : ¬ l = [] := List.ne_nil_of_length_pos (by omega)
  have t2 : decide ((20 : Int) < (l.length : Int)) = false := decide_eq_false (by omega)
  have t2n : ¬ 20 < l.length := by omega
  have cc0 := Kc.out.cell (i := 0) (v := .string nm) rfl
  have cc1 := Kc.out.cell (i := 1) (v := .int .i64 lo) rfl
  have cc2 := Kc.out.cell (i := 2) (v := .int .i64 hi) rfl
  have cc3 := Kc.out.cell (i := 3) (v := .int .i64 st) rfl
  have cc4 := Kc.out.cell (i := 4) (v := .int .i64 how) rfl
  have cc5 := Kc.out.cell (i := 5) (v := .int .i64 tr) rfl
  have cc6 := Kc.out.cell (i := 6) (v := .bool rv) rfl
  go_wp2_with fail
  clear cc0 cc1 cc2 cc3 cc4 cc5 cc6
  have HX := Lib.hid hx
  have HK := Kc
  go_loopw [35] (fun i wr => ∃ k : Nat, k ≤ l.length ∧ i = .int .i64 k ∧ (∀ j, j < k → ∀ x, l[j]? = some x → onC (⟨nm, lo, hi, st, how, tr, rv⟩ : CritA) x = true) ∧ Ext x2 wr) (fun i _ => l.length - (intOf i).toNat)
  case atStart => exact ⟨0, Nat.zero_le _, rfl, fun j hj => absurd hj (Nat.not_lt_zero _), Ext.refl _⟩
  case round =>
    obtain ⟨k, hk, rfl, hall, hxr⟩ := hrel
    clear hx Kc
    have hx := HX.out.trans hxr
    have Kc := kE HK hxr
    have HA := Lib.hid hall
    have HXR := Lib.hid hxr
    have g0 : (0 : Int) ≤ (k : Int) := by omega
    clear hall hxr HX HK
    by_cases hlt : k < l.length
    · obtain ⟨b, o, rfl⟩ := HI.out.head hlt
      obtain ⟨x, hxk, hcx, hx1, hx2⟩ := Ints.get (HI.out.ext hx) hlt
      have HXK := Lib.hid hxk
      have g1 : (k : Int) < (l.length : Int) := by omega
      clear hxk
      have HO1 := Lib.hid (HOn.out x ⟨hx1, hx2⟩)
      cases ho : onC (⟨nm, lo, hi, st, how, tr, rv⟩ : CritA) x
      · rw [ho] at HO1
        have HOX := Lib.hid ho
        clear ho
        obtain rfl : R = false := by
          rw [hR.out]
          exact Bool.eq_false_iff.2 (fun e => by have := onAll_iff.1 e x (List.mem_of_getElem? HXK.out); rw [HOX.out] at this; cases this)
        have cc0 := Kc.out.cell (i := 0) (v := .string nm) rfl
        have cc1 := Kc.out.cell (i := 1) (v := .int .i64 lo) rfl
        have cc2 := Kc.out.cell (i := 2) (v := .int .i64 hi) rfl
        have cc3 := Kc.out.cell (i := 3) (v := .int .i64 st) rfl
        have cc4 := Kc.out.cell (i := 4) (v := .int .i64 how) rfl
        have cc5 := Kc.out.cell (i := 5) (v := .int .i64 tr) rfl
        have cc6 := Kc.out.cell (i := 6) (v := .bool rv) rfl
        go_wp2_with fail
        with_reducible refine (HO1.out _).mono ?_
        clear cc0 cc1 cc2 cc3 cc4 cc5 cc6
        rintro e x3 ⟨rfl, hy⟩
        replace hx := hx.trans hy
        replace Kc := kE Kc hy
        clear hy
        go_wp2_with fail
        go_ret
        exact ⟨rfl, hx⟩
      · rw [ho] at HO1
        have HOX := Lib.hid ho
        clear ho
        have cc0 := Kc.out.cell (i := 0) (v := .string nm) rfl
        have cc1 := Kc.out.cell (i := 1) (v := .int .i64 lo) rfl
        have cc2 := Kc.out.cell (i := 2) (v := .int .i64 hi) rfl
        have cc3 := Kc.out.cell (i := 3) (v := .int .i64 st) rfl
        have cc4 := Kc.out.cell (i := 4) (v := .int .i64 how) rfl
        have cc5 := Kc.out.cell (i := 5) (v := .int .i64 tr) rfl
        have cc6 := Kc.out.cell (i := 6) (v := .bool rv) rfl
        go_wp2_with fail
        clear cc0 cc1 cc2 cc3 cc4 cc5 cc6
        with_reducible refine (HO1.out _).mono ?_
        rintro e x3 ⟨rfl, hy⟩
        have HXY := Lib.hid (HXR.out.trans hy)
        replace hx := hx.trans hy
        replace Kc := kE Kc hy
        clear hy
        go_wp2_with fail
        go_roundw
        case rel => exact ⟨k + 1, by omega, by go_num, fun j hj u hu => (by
          by_cases hjk : j < k
          · exact HA.out j hjk u hu
          · obtain rfl : j = k := by omega
            rw [HXK.out] at hu
            cases hu
            exact HOX.out), HXY.out⟩
        case measure => simp [intOf]; omega
    · obtain rfl : k = l.length := by omega
      obtain rfl : R = true := by
        rw [hR.out]
        exact onAll_iff.2 (fun x hx => by
          obtain ⟨j, hj, e⟩ := List.getElem_of_mem hx
          exact HA.out j hj x (by rw [← e]; simp))
      go_wp2_with fail
      go_ret
      exact ⟨rfl, hx⟩
theorem law16_right (c : CritA) (hc : c.In) (a : Option Addr) (cap : Nat) (l : List Int) (w : World) (h : Ints w a cap l) : Calls Try.prog 26 #[c.val, .slice a l.length cap] w fun e w' => e = .returned (.bool (rtB c l)) ∧ Ext w w' := by
  cases hr : rightC c
  · have := law16_right_wrong c hc a cap l w h hr
    simpa [rtB, hr] using this
  by_cases h1 : l.length = 0
  · have := law16_right_none c hc a cap l w h hr h1
    rwa [show rtB c l = false by simp [rtB, h1]]
  by_cases h2 : 20 < l.length
  · have := law16_right_many c hc a cap l w h hr h2
    rwa [show rtB c l = false by unfold rtB; rw [decide_eq_false (show ¬ l.length ≤ 20 by omega)]; simp]
  by_cases h3 : c.how = 2
  · by_cases h4 : (l.length : Int) ≤ 2 * c.tr
    · have := law16_right_few c hc a cap l w h hr (by omega) (by omega) h3 h4
      rwa [show rtB c l = false by unfold rtB; rw [decide_eq_true h3, decide_eq_true h4]; simp]
    · have := law16_right_mean c hc a cap l w h hr (by omega) (by omega) h3 h4
      rwa [show rtB c l = onAll c l by unfold rtB; rw [hr, decide_eq_true (show 0 < l.length by omega), decide_eq_true (show l.length ≤ 20 by omega), decide_eq_false h4]; simp]
  · have := law16_right_other c hc a cap l w h hr (by omega) (by omega) h3
    rwa [show rtB c l = onAll c l by unfold rtB; rw [hr, decide_eq_true (show 0 < l.length by omega), decide_eq_true (show l.length ≤ 20 by omega), decide_eq_false h3]; simp]
end Go.Proofs.Ytmcbbhlglccmgaa
