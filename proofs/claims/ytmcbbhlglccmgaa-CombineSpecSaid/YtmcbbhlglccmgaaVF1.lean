/- CombineSpec: the Go law returns true at every input, and its arguments read as before. -/
import Derived.Test.YtmcbbhlglccmgaaVSane
import Derived.Test.YtmcbbhlglccmgaaRows
import Derived.Test.YtmcbbhlglccmgaaVOpen
import Derived.ShutString
import Derived.ChangeOld
import Derived.Below
namespace Go.Proofs.Ytmcbbhlglccmgaa
open Go.RowKit Go BigFrame
set_option maxRecDepth 100000
set_option linter.unusedSimpArgs false
set_option linter.unusedVariables false

/-! law16.CombineSpec. -/
def fewM (n : Nat) : Bool := decide (n ≤ 20) || (decide (256 < n) && decide (n ≤ 300))
set_option maxHeartbeats 1000000 in
theorem ref16_Few (a : Option Addr) (n cap : Nat) (w : World) (hn : n ≤ 9223372036854775807) : Calls Try.prog 21 #[.slice a n cap] w fun e w' => e = .returned (.bool (fewM n)) ∧ w = w' := by
  obtain ⟨R, hR⟩ : ∃ R, R = fewM n := ⟨_, rfl⟩
  rw [← hR]
  replace hR := Lib.hid hR
  go_enter Try.func21, Try.ntmps21
  by_cases h1 : n ≤ 20
  · obtain rfl : R = true := hR.out.trans (by simp [fewM, h1])
    have t1 : decide ((n : Int) ≤ 20) = true := decide_eq_true (by omega)
    clear hR
    go_wp2
    go_ret
    exact ⟨rfl, rfl⟩
  · have t1 : decide ((n : Int) ≤ 20) = false := decide_eq_false (by omega)
    by_cases h2 : 256 < n
    · have t2 : decide ((256 : Int) < (n : Int)) = true := decide_eq_true (by omega)
      by_cases h3 : n ≤ 300
      · obtain rfl : R = true := hR.out.trans (by simp [fewM, h2, h3])
        have t3 : decide ((n : Int) ≤ 300) = true := decide_eq_true (by omega)
        clear hR
        go_wp2
        go_ret
        exact ⟨by simp [h3], rfl⟩
      · obtain rfl : R = false := hR.out.trans (by simp [fewM, h1, h2, h3])
        have t3 : decide ((n : Int) ≤ 300) = false := decide_eq_false (by omega)
        clear hR
        go_wp2
        go_ret
        exact ⟨by simp [h3], rfl⟩
    · obtain rfl : R = false := hR.out.trans (by simp [fewM, h1, h2])
      have t2 : decide ((256 : Int) < (n : Int)) = false := decide_eq_false (by omega)
      clear hR
      go_wp2
      go_ret
      exact ⟨by simp [h2], rfl⟩
theorem same_zero (w : World) : Calls Try.prog 19 #[zeroRat, zeroRat] w fun e w' => e = .returned (.bool true) ∧ Ext w w' := by
  have hz : BigV w (.agg #[.bool false, .slice none 0 0]) 0 := ⟨false, [], ⟨none, 0, rfl, ⟨Nat.le_refl _, by omega, fun _ => rfl, fun A hA => by cases hA⟩⟩, ⟨trivial, by simp, rfl⟩⟩
  exact (same_yes hz hz hz hz (by simp)).mono fun _ _ h => by simpa using h
set_option maxHeartbeats 4000000 in
theorem law_CSpec_no (c : CritA) (hc : c.In) (a : Option Addr) (cap : Nat) (l : List Int) (m : Int) (hm : In64 m) (w : World) (h : Ints w a cap l) (hf : fewM l.length = false) :
    Calls Try.prog 5 #[c.val, .slice a l.length cap, .int .i64 m] w fun e w' => e = .returned (.bool true) ∧ Ext w w' := by
  have hle := h.le
  have hmx := h.mx
  have HF := Lib.hid (fun W => ref16_Few a l.length cap W (by omega))
  rw [hf] at HF
  obtain ⟨nm, lo, hi, st, how, tr, rv⟩ := c
  dsimp only [CritA.val, CritA.cells] at *
  clear h hf hc
  obtain ⟨x1, hw, hx, Kc⟩ := boxQ1 w #[.string nm, .int .i64 lo, .int .i64 hi, .int .i64 st, .int .i64 how, .int .i64 tr, .bool rv] 48
  replace hw := Lib.hid hw
  go_enter Try.func5, Try.ntmps5
  go_upto_region 1 with fail
  try simp only [Nat.add_assoc, Nat.reduceAdd, Nat.add_zero]
  rw [hw.out]
  clear hw
  have hs0 := hx.size
  have cc0 := Kc.out.cell (i := 0) (v := .string nm) rfl
  have cc1 := Kc.out.cell (i := 1) (v := .int .i64 lo) rfl
  have cc2 := Kc.out.cell (i := 2) (v := .int .i64 hi) rfl
  have cc3 := Kc.out.cell (i := 3) (v := .int .i64 st) rfl
  have cc4 := Kc.out.cell (i := 4) (v := .int .i64 how) rfl
  have cc5 := Kc.out.cell (i := 5) (v := .int .i64 tr) rfl
  have cc6 := Kc.out.cell (i := 6) (v := .bool rv) rfl
  go_wp2_with fail
  with_reducible refine (law16_sane _).mono ?_
  clear cc0 cc1 cc2 cc3 cc4 cc5 cc6
  rintro e x2 ⟨rfl, hy⟩
  replace hx := hx.trans hy
  replace Kc := kE Kc hy
  clear hy
  have cc0 := Kc.out.cell (i := 0) (v := .string nm) rfl
  have cc1 := Kc.out.cell (i := 1) (v := .int .i64 lo) rfl
  have cc2 := Kc.out.cell (i := 2) (v := .int .i64 hi) rfl
  have cc3 := Kc.out.cell (i := 3) (v := .int .i64 st) rfl
  have cc4 := Kc.out.cell (i := 4) (v := .int .i64 how) rfl
  have cc5 := Kc.out.cell (i := 5) (v := .int .i64 tr) rfl
  have cc6 := Kc.out.cell (i := 6) (v := .bool rv) rfl
  go_wp2_with fail
  refine (HF.out _).mono ?_
  rintro e wf ⟨rfl, rfl⟩
  go_wp2_with fail
  go_ret
  exact ⟨rfl, hx⟩
set_option maxHeartbeats 4000000 in
theorem law_CSpec_ok (c : CritA) (hc : c.In) (a : Option Addr) (cap : Nat) (l : List Int) (m : Int) (hm : In64 m) (w : World) (h : Ints w a cap l) (hf : fewM l.length = true) (he : totE c l = 0) :
    Calls Try.prog 5 #[c.val, .slice a l.length cap, .int .i64 m] w fun e w' => e = .returned (.bool true) ∧ Ext w w' := by
  have hle := h.le
  have hmx := h.mx
  have HF := Lib.hid (fun W => ref16_Few a l.length cap W (by omega))
  rw [hf] at HF
  have hl3 : l.length ≤ 1000 := by
    have := hf
    simp only [fewM, Bool.or_eq_true, Bool.and_eq_true, decide_eq_true_eq] at this
    omega
  have HB1 := Lib.hid (fun W => combine_Better c hc m hm W)
  have HB2 := Lib.hid (fun W => ref16_Better c hc m hm W)
  have HT1 := Lib.hid (fun W (hW : Ext w W) => combine_Total c hc a cap l W (h.ext hW) hl3)
  have HT2 := Lib.hid (fun W (hW : Ext w W) => ref16_Total c hc a cap l W (h.ext hW) hl3)
  have HE := Lib.hid he
  generalize (betterC c m).1 = u1 at *
  generalize (betterC c m).2 = u2 at *
  obtain ⟨r, hr⟩ : ∃ r, r = totQ c l := ⟨_, rfl⟩
  have HP := Lib.hid (fun W e W' (k : TotP c l W e W') => (by rw [hr]; exact k.1 he : RatP r W e W'))
  clear hr
  obtain ⟨nm, lo, hi, st, how, tr, rv⟩ := c
  dsimp only [CritA.val, CritA.cells] at *
  clear h hf hc he
  obtain ⟨x1, hw, hx, Kc⟩ := boxQ1 w #[.string nm, .int .i64 lo, .int .i64 hi, .int .i64 st, .int .i64 how, .int .i64 tr, .bool rv] 48
  replace hw := Lib.hid hw
  go_enter Try.func5, Try.ntmps5
  go_upto_region 1 with fail
  try simp only [Nat.add_assoc, Nat.reduceAdd, Nat.add_zero]
  rw [hw.out]
  clear hw
  have hs0 := hx.size
  have cc0 := Kc.out.cell (i := 0) (v := .string nm) rfl
  have cc1 := Kc.out.cell (i := 1) (v := .int .i64 lo) rfl
  have cc2 := Kc.out.cell (i := 2) (v := .int .i64 hi) rfl
  have cc3 := Kc.out.cell (i := 3) (v := .int .i64 st) rfl
  have cc4 := Kc.out.cell (i := 4) (v := .int .i64 how) rfl
  have cc5 := Kc.out.cell (i := 5) (v := .int .i64 tr) rfl
  have cc6 := Kc.out.cell (i := 6) (v := .bool rv) rfl
  go_wp2_with fail
  with_reducible refine (law16_sane _).mono ?_
  clear cc0 cc1 cc2 cc3 cc4 cc5 cc6
  rintro e x2 ⟨rfl, hy⟩
  replace hx := hx.trans hy
  replace Kc := kE Kc hy
  clear hy
  have cc0 := Kc.out.cell (i := 0) (v := .string nm) rfl
  have cc1 := Kc.out.cell (i := 1) (v := .int .i64 lo) rfl
  have cc2 := Kc.out.cell (i := 2) (v := .int .i64 hi) rfl
  have cc3 := Kc.out.cell (i := 3) (v := .int .i64 st) rfl
  have cc4 := Kc.out.cell (i := 4) (v := .int .i64 how) rfl
  have cc5 := Kc.out.cell (i := 5) (v := .int .i64 tr) rfl
  have cc6 := Kc.out.cell (i := 6) (v := .bool rv) rfl
  go_wp2_with fail
  refine (HF.out _).mono ?_
  rintro e wf ⟨rfl, rfl⟩
  go_wp2_with fail
  with_reducible refine (HB1.out _).mono ?_
  clear cc0 cc1 cc2 cc3 cc4 cc5 cc6
  rintro e x3 ⟨rfl, hy⟩
  replace hx := hx.trans hy
  replace Kc := kE Kc hy
  clear hy
  have cc0 := Kc.out.cell (i := 0) (v := .string nm) rfl
  have cc1 := Kc.out.cell (i := 1) (v := .int .i64 lo) rfl
  have cc2 := Kc.out.cell (i := 2) (v := .int .i64 hi) rfl
  have cc3 := Kc.out.cell (i := 3) (v := .int .i64 st) rfl
  have cc4 := Kc.out.cell (i := 4) (v := .int .i64 how) rfl
  have cc5 := Kc.out.cell (i := 5) (v := .int .i64 tr) rfl
  have cc6 := Kc.out.cell (i := 6) (v := .bool rv) rfl
  go_wp2_with fail
  with_reducible refine (HB2.out _).mono ?_
  clear cc0 cc1 cc2 cc3 cc4 cc5 cc6
  rintro e x4 ⟨rfl, hy⟩
  replace hx := hx.trans hy
  replace Kc := kE Kc hy
  clear hy
  have cc0 := Kc.out.cell (i := 0) (v := .string nm) rfl
  have cc1 := Kc.out.cell (i := 1) (v := .int .i64 lo) rfl
  have cc2 := Kc.out.cell (i := 2) (v := .int .i64 hi) rfl
  have cc3 := Kc.out.cell (i := 3) (v := .int .i64 st) rfl
  have cc4 := Kc.out.cell (i := 4) (v := .int .i64 how) rfl
  have cc5 := Kc.out.cell (i := 5) (v := .int .i64 tr) rfl
  have cc6 := Kc.out.cell (i := 6) (v := .bool rv) rfl
  have hsz := hx.size
  go_wp2_with fail
  clear cc0 cc1 cc2 cc3 cc4 cc5 cc6
  refine (HT1.out _ hx).mono ?_
  intro e x5 hk
  have hk2 := HP.out _ _ _ hk
  clear hk
  obtain ⟨v, rfl, hv, hy⟩ := hk2
  replace hx := hx.trans hy
  replace Kc := kE Kc hy
  clear hy
  obtain ⟨nx, ax, qx, cx, bx, kx, dx, rfl, hv', hf', hg'⟩ := hv
  have Vx := Lib.hid hv'
  have Fx := Lib.hid (fun A hA => Nat.le_trans hsz (hf' A hA))
  have Gx := Lib.hid (fun A hA => Nat.le_trans hsz (hg' A hA))
  clear hv' hf' hg' hsz
  clear Fx Gx
  go_upto_region 8 with fail
  have hl := Ext.alloc x5 (.cells #[.bool nx, .slice ax qx cx, .bool false, .slice bx kx dx] 35)
  have lcx : w.heap.size < x5.heap.size := Kc.out.lt
  have hpx : w.heap.size ≤ x5.heap.size := hx.size
  replace hx := hx.trans hl
  replace Kc := kE Kc hl
  replace Vx := Lib.hid (Vx.out.ext hl)
  have Kx := Lib.hid (Blk.new0 x5 #[.bool nx, .slice ax qx cx, .bool false, .slice bx kx dx] 35)
  clear hl
  generalize x5.alloc (.cells #[.bool nx, .slice ax qx cx, .bool false, .slice bx kx dx] 35) = x6 at *
  generalize x5.heap.size = px at *
  have cc0 := Kc.out.cell (i := 0) (v := .string nm) rfl
  have cc1 := Kc.out.cell (i := 1) (v := .int .i64 lo) rfl
  have cc2 := Kc.out.cell (i := 2) (v := .int .i64 hi) rfl
  have cc3 := Kc.out.cell (i := 3) (v := .int .i64 st) rfl
  have cc4 := Kc.out.cell (i := 4) (v := .int .i64 how) rfl
  have cc5 := Kc.out.cell (i := 5) (v := .int .i64 tr) rfl
  have cc6 := Kc.out.cell (i := 6) (v := .bool rv) rfl
  obtain ⟨cx0, cx1, cx2, cx3⟩ := bk4 Kx
  have hsz := hx.size
  go_wp2_with fail
  clear cc0 cc1 cc2 cc3 cc4 cc5 cc6 cx0 cx1 cx2 cx3
  refine (HT2.out _ hx).mono ?_
  intro e x7 hk
  have hk2 := HP.out _ _ _ hk
  clear hk
  obtain ⟨v, rfl, hv, hy⟩ := hk2
  replace hx := hx.trans hy
  replace Kc := kE Kc hy
  replace Kx := kE Kx hy
  replace Vx := Lib.hid (Vx.out.ext hy)
  clear hy
  obtain ⟨ny, ay, qy, cy, by_, ky, dy, rfl, hv', hf', hg'⟩ := hv
  have Vy := Lib.hid hv'
  have Fy := Lib.hid (fun A hA => Nat.le_trans hsz (hf' A hA))
  have Gy := Lib.hid (fun A hA => Nat.le_trans hsz (hg' A hA))
  clear hv' hf' hg' hsz
  clear Fy Gy
  go_upto_region 9 with fail
  have hl := Ext.alloc x7 (.cells #[.bool ny, .slice ay qy cy, .bool false, .slice by_ ky dy] 35)
  have lcy : w.heap.size < x7.heap.size := Kc.out.lt
  have lxy : px < x7.heap.size := Kx.out.lt
  have hpy : w.heap.size ≤ x7.heap.size := hx.size
  replace hx := hx.trans hl
  replace Kc := kE Kc hl
  replace Kx := kE Kx hl
  replace Vx := Lib.hid (Vx.out.ext hl)
  replace Vy := Lib.hid (Vy.out.ext hl)
  have Ky := Lib.hid (Blk.new0 x7 #[.bool ny, .slice ay qy cy, .bool false, .slice by_ ky dy] 35)
  clear hl
  generalize x7.alloc (.cells #[.bool ny, .slice ay qy cy, .bool false, .slice by_ ky dy] 35) = x8 at *
  generalize x7.heap.size = py at *
  have cc0 := Kc.out.cell (i := 0) (v := .string nm) rfl
  have cc1 := Kc.out.cell (i := 1) (v := .int .i64 lo) rfl
  have cc2 := Kc.out.cell (i := 2) (v := .int .i64 hi) rfl
  have cc3 := Kc.out.cell (i := 3) (v := .int .i64 st) rfl
  have cc4 := Kc.out.cell (i := 4) (v := .int .i64 how) rfl
  have cc5 := Kc.out.cell (i := 5) (v := .int .i64 tr) rfl
  have cc6 := Kc.out.cell (i := 6) (v := .bool rv) rfl
  obtain ⟨cx0, cx1, cx2, cx3⟩ := bk4 Kx
  obtain ⟨cy0, cy1, cy2, cy3⟩ := bk4 Ky
  go_wp2_with fail
  with_reducible refine ((same_rat Vx.out Vy.out)).mono ?_
  clear cc0 cc1 cc2 cc3 cc4 cc5 cc6 cx0 cx1 cx2 cx3 cy0 cy1 cy2 cy3
  rintro e x9 ⟨rfl, hy⟩
  replace hx := hx.trans hy
  replace Kc := kE Kc hy
  replace Kx := kE Kx hy
  replace Ky := kE Ky hy
  replace Vx := Lib.hid (Vx.out.ext hy)
  replace Vy := Lib.hid (Vy.out.ext hy)
  clear hy
  simp only [decide_true]
  go_wp2_with fail
  go_ret
  exact ⟨rfl, hx⟩
set_option maxHeartbeats 4000000 in
theorem law_CSpec_err (c : CritA) (hc : c.In) (a : Option Addr) (cap : Nat) (l : List Int) (m : Int) (hm : In64 m) (w : World) (h : Ints w a cap l) (hf : fewM l.length = true) (he : totE c l ≠ 0) :
    Calls Try.prog 5 #[c.val, .slice a l.length cap, .int .i64 m] w fun e w' => e = .returned (.bool true) ∧ Ext w w' := by
  have hle := h.le
  have hmx := h.mx
  have HF := Lib.hid (fun W => ref16_Few a l.length cap W (by omega))
  rw [hf] at HF
  have hl3 : l.length ≤ 1000 := by
    have := hf
    simp only [fewM, Bool.or_eq_true, Bool.and_eq_true, decide_eq_true_eq] at this
    omega
  have HB1 := Lib.hid (fun W => combine_Better c hc m hm W)
  have HB2 := Lib.hid (fun W => ref16_Better c hc m hm W)
  have HT1 := Lib.hid (fun W (hW : Ext w W) => combine_Total c hc a cap l W (h.ext hW) hl3)
  have HT2 := Lib.hid (fun W (hW : Ext w W) => ref16_Total c hc a cap l W (h.ext hW) hl3)
  have HE := Lib.hid he
  generalize (betterC c m).1 = u1 at *
  generalize (betterC c m).2 = u2 at *
  obtain ⟨E, hE0⟩ : ∃ E, E = totE c l := ⟨_, rfl⟩
  have HP := Lib.hid (fun W e W' (k : TotP c l W e W') => (by rw [hE0]; exact k.2 he : RatE E W e W'))
  clear hE0
  obtain ⟨nm, lo, hi, st, how, tr, rv⟩ := c
  dsimp only [CritA.val, CritA.cells] at *
  clear h hf hc he
  obtain ⟨x1, hw, hx, Kc⟩ := boxQ1 w #[.string nm, .int .i64 lo, .int .i64 hi, .int .i64 st, .int .i64 how, .int .i64 tr, .bool rv] 48
  replace hw := Lib.hid hw
  go_enter Try.func5, Try.ntmps5
  go_upto_region 1 with fail
  try simp only [Nat.add_assoc, Nat.reduceAdd, Nat.add_zero]
  rw [hw.out]
  clear hw
  have hs0 := hx.size
  have cc0 := Kc.out.cell (i := 0) (v := .string nm) rfl
  have cc1 := Kc.out.cell (i := 1) (v := .int .i64 lo) rfl
  have cc2 := Kc.out.cell (i := 2) (v := .int .i64 hi) rfl
  have cc3 := Kc.out.cell (i := 3) (v := .int .i64 st) rfl
  have cc4 := Kc.out.cell (i := 4) (v := .int .i64 how) rfl
  have cc5 := Kc.out.cell (i := 5) (v := .int .i64 tr) rfl
  have cc6 := Kc.out.cell (i := 6) (v := .bool rv) rfl
  go_wp2_with fail
  with_reducible refine (law16_sane _).mono ?_
  clear cc0 cc1 cc2 cc3 cc4 cc5 cc6
  rintro e x2 ⟨rfl, hy⟩
  replace hx := hx.trans hy
  replace Kc := kE Kc hy
  clear hy
  have cc0 := Kc.out.cell (i := 0) (v := .string nm) rfl
  have cc1 := Kc.out.cell (i := 1) (v := .int .i64 lo) rfl
  have cc2 := Kc.out.cell (i := 2) (v := .int .i64 hi) rfl
  have cc3 := Kc.out.cell (i := 3) (v := .int .i64 st) rfl
  have cc4 := Kc.out.cell (i := 4) (v := .int .i64 how) rfl
  have cc5 := Kc.out.cell (i := 5) (v := .int .i64 tr) rfl
  have cc6 := Kc.out.cell (i := 6) (v := .bool rv) rfl
  go_wp2_with fail
  refine (HF.out _).mono ?_
  rintro e wf ⟨rfl, rfl⟩
  go_wp2_with fail
  with_reducible refine (HB1.out _).mono ?_
  clear cc0 cc1 cc2 cc3 cc4 cc5 cc6
  rintro e x3 ⟨rfl, hy⟩
  replace hx := hx.trans hy
  replace Kc := kE Kc hy
  clear hy
  have cc0 := Kc.out.cell (i := 0) (v := .string nm) rfl
  have cc1 := Kc.out.cell (i := 1) (v := .int .i64 lo) rfl
  have cc2 := Kc.out.cell (i := 2) (v := .int .i64 hi) rfl
  have cc3 := Kc.out.cell (i := 3) (v := .int .i64 st) rfl
  have cc4 := Kc.out.cell (i := 4) (v := .int .i64 how) rfl
  have cc5 := Kc.out.cell (i := 5) (v := .int .i64 tr) rfl
  have cc6 := Kc.out.cell (i := 6) (v := .bool rv) rfl
  go_wp2_with fail
  with_reducible refine (HB2.out _).mono ?_
  clear cc0 cc1 cc2 cc3 cc4 cc5 cc6
  rintro e x4 ⟨rfl, hy⟩
  replace hx := hx.trans hy
  replace Kc := kE Kc hy
  clear hy
  have cc0 := Kc.out.cell (i := 0) (v := .string nm) rfl
  have cc1 := Kc.out.cell (i := 1) (v := .int .i64 lo) rfl
  have cc2 := Kc.out.cell (i := 2) (v := .int .i64 hi) rfl
  have cc3 := Kc.out.cell (i := 3) (v := .int .i64 st) rfl
  have cc4 := Kc.out.cell (i := 4) (v := .int .i64 how) rfl
  have cc5 := Kc.out.cell (i := 5) (v := .int .i64 tr) rfl
  have cc6 := Kc.out.cell (i := 6) (v := .bool rv) rfl
  have hsz := hx.size
  go_wp2_with fail
  clear cc0 cc1 cc2 cc3 cc4 cc5 cc6
  refine (HT1.out _ hx).mono ?_
  intro e x5 hk
  have hk2 := HP.out _ _ _ hk
  clear hk
  obtain ⟨rfl, hy⟩ := hk2
  clear hsz
  replace hx := hx.trans hy
  replace Kc := kE Kc hy
  clear hy
  go_upto_region 8 with fail
  have hl := Ext.alloc x5 (.cells #[.bool false, .slice none 0 0, .bool false, .slice none 0 0] 35)
  have lcx : w.heap.size < x5.heap.size := Kc.out.lt
  have hpx : w.heap.size ≤ x5.heap.size := hx.size
  replace hx := hx.trans hl
  replace Kc := kE Kc hl
  have Kx := Lib.hid (Blk.new0 x5 #[.bool false, .slice none 0 0, .bool false, .slice none 0 0] 35)
  clear hl
  generalize x5.alloc (.cells #[.bool false, .slice none 0 0, .bool false, .slice none 0 0] 35) = x6 at *
  generalize x5.heap.size = px at *
  have cc0 := Kc.out.cell (i := 0) (v := .string nm) rfl
  have cc1 := Kc.out.cell (i := 1) (v := .int .i64 lo) rfl
  have cc2 := Kc.out.cell (i := 2) (v := .int .i64 hi) rfl
  have cc3 := Kc.out.cell (i := 3) (v := .int .i64 st) rfl
  have cc4 := Kc.out.cell (i := 4) (v := .int .i64 how) rfl
  have cc5 := Kc.out.cell (i := 5) (v := .int .i64 tr) rfl
  have cc6 := Kc.out.cell (i := 6) (v := .bool rv) rfl
  obtain ⟨cx0, cx1, cx2, cx3⟩ := bk4 Kx
  have hsz := hx.size
  go_wp2_with fail
  clear cc0 cc1 cc2 cc3 cc4 cc5 cc6 cx0 cx1 cx2 cx3
  refine (HT2.out _ hx).mono ?_
  intro e x7 hk
  have hk2 := HP.out _ _ _ hk
  clear hk
  obtain ⟨rfl, hy⟩ := hk2
  clear hsz
  replace hx := hx.trans hy
  replace Kc := kE Kc hy
  replace Kx := kE Kx hy
  clear hy
  go_upto_region 9 with fail
  have hl := Ext.alloc x7 (.cells #[.bool false, .slice none 0 0, .bool false, .slice none 0 0] 35)
  have lcy : w.heap.size < x7.heap.size := Kc.out.lt
  have lxy : px < x7.heap.size := Kx.out.lt
  have hpy : w.heap.size ≤ x7.heap.size := hx.size
  replace hx := hx.trans hl
  replace Kc := kE Kc hl
  replace Kx := kE Kx hl
  have Ky := Lib.hid (Blk.new0 x7 #[.bool false, .slice none 0 0, .bool false, .slice none 0 0] 35)
  clear hl
  generalize x7.alloc (.cells #[.bool false, .slice none 0 0, .bool false, .slice none 0 0] 35) = x8 at *
  generalize x7.heap.size = py at *
  have cc0 := Kc.out.cell (i := 0) (v := .string nm) rfl
  have cc1 := Kc.out.cell (i := 1) (v := .int .i64 lo) rfl
  have cc2 := Kc.out.cell (i := 2) (v := .int .i64 hi) rfl
  have cc3 := Kc.out.cell (i := 3) (v := .int .i64 st) rfl
  have cc4 := Kc.out.cell (i := 4) (v := .int .i64 how) rfl
  have cc5 := Kc.out.cell (i := 5) (v := .int .i64 tr) rfl
  have cc6 := Kc.out.cell (i := 6) (v := .bool rv) rfl
  obtain ⟨cx0, cx1, cx2, cx3⟩ := bk4 Kx
  obtain ⟨cy0, cy1, cy2, cy3⟩ := bk4 Ky
  go_wp2_with fail
  with_reducible refine ((same_zero _)).mono ?_
  clear cc0 cc1 cc2 cc3 cc4 cc5 cc6 cx0 cx1 cx2 cx3 cy0 cy1 cy2 cy3
  rintro e x9 ⟨rfl, hy⟩
  replace hx := hx.trans hy
  replace Kc := kE Kc hy
  replace Kx := kE Kx hy
  replace Ky := kE Ky hy
  clear hy
  go_wp2_with fail
  go_ret
  exact ⟨rfl, hx⟩
theorem law_CSpec (c : CritA) (a : Option Addr) (cap : Nat) (l : List Int) (m : Int) (w : World) (hc : c.In) (h : Ints w a cap l) (hm : In64 m) : Calls Try.prog 5 #[c.val, .slice a l.length cap, .int .i64 m] w fun e w' => e = .returned (.bool true) ∧ Ext w w' := by
  cases hf : fewM l.length
  · exact law_CSpec_no c hc a cap l m hm w h hf
  · by_cases he : totE c l = 0
    · exact law_CSpec_ok c hc a cap l m hm w h hf he
    · exact law_CSpec_err c hc a cap l m hm w h hf he
end Go.Proofs.Ytmcbbhlglccmgaa

namespace Go.Proofs.Ytmcbbhlglccmgaa
open Go.ChangeShapes Go.WideShapes Go.ChangeAt Go.RowKit
set_option linter.unusedVariables false
set_option maxRecDepth 100000

theorem ownCombineSpec : ownKnob Try.prog.godebug = none := by kernel_rfl
theorem laidOutCombineSpec : laidOutB Try.prog = true := by kernel_rfl

theorem liftedCombineSpec (os : Os) (started : os.Started) (H : Type) (enc : TypeId × Value → H) :
    ReturnsInHanded {} Try.checked os 5 .any (Rows.combineSpecSpec.pre6 enc Try.prog Try.f5 Rows.combineSpecRow.domain false) (Rows.combineSpecSpec.post enc Try.prog Try.f5 false true false false) := by
  refine returnsInHanded_of_change (C := Try.checked) ownCombineSpec started (by kernel_rfl) Try.func5
    (ChangeSpec.witness6 (enc := enc) (C := Try.checked) false ⟨#[], #[.agg #[.string ⟨#[]⟩, .int .i64 0, .int .i64 0, .int .i64 0, .int .i64 0, .int .i64 0, .bool false], .slice none 0 0, .int .i64 0], []⟩ 8 (by kernel_rfl) (by kernel_rfl) (by kernel_rfl) (by kernel_rfl)) ?_
  intro W base args ds gs before hval0 hW hcnd _
  have hval : ∀ (j : Nat) t v, Try.f5.params[j]? = some t → args[j]? = some v → Value.okWide Try.prog W .any base t v := hval0
  have hW' := hW
  obtain ⟨p, q, hA0, hV, rfl, hfz, hnd⟩ := hW
  have hA : DataW.TrodAll enc Try.prog W 0 (fun _ => true) true Try.f5.params.toList args.toList ds p := hA0
  rw [Try.params5] at hA hval
  obtain ⟨v0, vs0, d0, ds0, p0, q0, hargs, rfl, rfl, h0, r0⟩ := trodAll_cons hA
  obtain ⟨v1, vs1, d1, ds1, p1, q1, rfl, rfl, rfl, h1, r1⟩ := trodAll_cons r0
  obtain ⟨v2, vs2, d2, ds2, p2, q2, rfl, rfl, rfl, h2, r2⟩ := trodAll_cons r1
  obtain ⟨rfl, rfl, rfl⟩ := trodAll_nil r2
  obtain rfl : args = #[v0, v1, v2] := by cases args; simp_all
  obtain ⟨rfl, rfl⟩ := trodVars_none hV
  have k0 := h0
  have lt0 : ∀ x ∈ p0, x.block < W.heap.size := by obtain ⟨m, hm⟩ := k0; exact DataW.trod_lt m _ _ _ hm
  have k1 := h1
  have lt1 : ∀ x ∈ p1, x.block < W.heap.size := by obtain ⟨m, hm⟩ := k1; exact DataW.trod_lt m _ _ _ hm
  have k2 := h2
  have lt2 : ∀ x ∈ p2, x.block < W.heap.size := by obtain ⟨m, hm⟩ := k2; exact DataW.trod_lt m _ _ _ hm
  obtain ⟨c0, rfl, w0⟩ := open_crit (hval 0 48 v0 rfl rfl) h0
  obtain ⟨a1, cap1, l1, rfl, w1⟩ := open_ints1 (hval 1 27 v1 rfl rfl) h1
  obtain ⟨n2, rfl, w2⟩ := open_i64 (hval 2 3 v2 rfl rfl) h2
  clear hA0 hval0
  refine (law_CSpec c0 a1 cap1 l1 n2 W w0 w1 w2).mono fun e W' ⟨he, bel⟩ => ?_
  subst he
  exact ⟨_, rfl, _, _, _, [], _, [], hW', trodAll_mk1 (shut_bool Try.underlying4 _), (trodAll_cons_mk (Below.trod laidOutCombineSpec (by kernel_rfl) (of_decide_eq_true (by kernel_rfl)) k0 bel lt0) (trodAll_cons_mk (Below.trod laidOutCombineSpec (by kernel_rfl) (of_decide_eq_true (by kernel_rfl)) k1 bel lt1) (trodAll_cons_mk (Below.trod laidOutCombineSpec (by kernel_rfl) (of_decide_eq_true (by kernel_rfl)) k2 bel lt2) trodAll_mk0))), rfl, bel.frame _, fun h => by cases h⟩

theorem combineSpec_holds : Rows.CombineSpecSaid :=
  OpenClaim.holds_of_wide 5 Try.f5 rfl rfl rfl rfl rfl rfl rfl ⟨rfl, rfl, rfl, rfl, rfl⟩ rfl rfl rfl rfl rfl (by kernel_rfl) Try.func5 (by kernel_rfl)
    (of_decide_eq_true (by kernel_rfl)) (by unfold Func.isWrapper; rw [if_neg (of_decide_eq_false (by kernel_rfl))]; exact ⟨rfl, rfl⟩)
    (fun os started H enc _ => liftedCombineSpec os started H enc)

#print axioms combineSpec_holds
end Go.Proofs.Ytmcbbhlglccmgaa

