import Derived.Test.YtmcbbhlglccmgaaV1
namespace Go.Proofs.Ytmcbbhlglccmgaa
open Go.RowKit Go BigFrame
set_option maxRecDepth 100000
set_option linter.unusedSimpArgs false
set_option linter.unusedVariables false

/-! On, Turn, Better. -/
theorem crit_box (c : CritA) (w : World) : ∃ x, w.alloc (.cells c.cells 48) = x ∧ Ext w x ∧ Hid (Blk x w.heap.size c.cells 48) := boxQ1 w c.cells _
structure CritC (w : World) (g : Nat) (c : CritA) : Prop where
  c0 : w.cell? ⟨g, 0, none⟩ = some (.string c.nm)
  c1 : w.cell? ⟨g, 1, none⟩ = some (.int .i64 c.lo)
  c2 : w.cell? ⟨g, 2, none⟩ = some (.int .i64 c.hi)
  c3 : w.cell? ⟨g, 3, none⟩ = some (.int .i64 c.st)
  c4 : w.cell? ⟨g, 4, none⟩ = some (.int .i64 c.how)
  c5 : w.cell? ⟨g, 5, none⟩ = some (.int .i64 c.tr)
  c6 : w.cell? ⟨g, 6, none⟩ = some (.bool c.rv)
theorem Blk.crit {w : World} {g : Nat} {c : CritA} {t : TypeId} (h : Blk w g c.cells t) : CritC w g c :=
  ⟨h.cell rfl, h.cell rfl, h.cell rfl, h.cell rfl, h.cell rfl, h.cell rfl, h.cell rfl⟩
theorem on_tmod {c : CritA} {m : Int} (h : c.lo ≤ m) : (m - c.lo).tmod c.st = (m - c.lo) % c.st := emod_tmod (by omega)
set_option maxHeartbeats 1000000 in
theorem ref16_On (c : CritA) (hc : c.In) (hr : RightC c) (m : Int) (hm : In64 m) (w : World) : Calls Try.prog 27 #[c.val, .int .i64 m] w fun e w' => e = .returned (.bool (onC c m)) ∧ Ext w w' := by
  obtain ⟨r1, r2, r3, r4, -, -, -, -, -⟩ := hr
  obtain ⟨m1, m2⟩ := hm
  obtain ⟨x1, hw, hx, Kx⟩ := crit_box c w
  obtain ⟨R, hR⟩ : ∃ R, R = onC c m := ⟨_, rfl⟩
  have OT := @on_tmod c m
  rw [← hR]
  unfold onC at hR
  obtain ⟨c0, c1, c2, c3, c4, c5, c6⟩ := Kx.out.crit
  obtain ⟨nm, lo, hi, st, how, tr, rv⟩ := c
  dsimp only [CritA.val, CritA.cells] at *
  clear hc Kx
  replace hw := Lib.hid hw
  go_enter Try.func27, Try.ntmps27
  go_upto_region 1 with fail
  rw [hw.out]
  clear hw
  by_cases d1 : lo ≤ m
  · have e1 := Lib.hid (OT d1)
    by_cases d2 : m ≤ hi
    · have g1 : (0 : Int) ≤ m - lo := by omega
      by_cases d3 : (m - lo) % st = 0
      · obtain rfl : R = true := by rw [hR]; simp [d1, d2, d3]
        have e2 : (m - lo).tmod st = 0 := e1.out.trans d3
        clear hR OT
        go_wp2_with fail
        go_ret
        exact ⟨by simp [e2, d3], hx⟩
      · obtain rfl : R = false := by rw [hR]; simp [d1, d2, d3]
        have e2 : ¬ (m - lo).tmod st = 0 := by rw [e1.out]; exact d3
        clear hR OT
        go_wp2_with fail
        go_ret
        exact ⟨by simp [e2, d3], hx⟩
    · obtain rfl : R = false := by rw [hR]; simp [d1, d2]
      have q2 : decide (m ≤ hi) = false := decide_eq_false d2
      clear hR OT
      go_wp2_with fail
      go_ret
      exact ⟨rfl, hx⟩
  · obtain rfl : R = false := by rw [hR]; simp [d1]
    have q2 : decide (lo ≤ m) = false := decide_eq_false d1
    clear hR OT
    go_wp2_with fail
    go_ret
    exact ⟨rfl, hx⟩
theorem onC_iff {c : CritA} {m : Int} : onC c m = true ↔ c.lo ≤ m ∧ m ≤ c.hi ∧ (m - c.lo) % c.st = 0 := by simp [onC]
theorem ref16_Turn (c : CritA) (hc : c.In) (hr : RightC c) (m : Int) (hm : onC c m = true) (w : World) : Calls Try.prog 54 #[c.val, .int .i64 m] w fun e w' => e = .returned (.int .i64 (turnC c m)) ∧ Ext w w' := by
  obtain ⟨r1, r2, r3, r4, -, -, -, -, -⟩ := hr
  obtain ⟨m1, m2, -⟩ := onC_iff.1 hm
  obtain ⟨x1, hw, hx, Kx⟩ := crit_box c w
  unfold turnC
  obtain ⟨c0, c1, c2, c3, c4, c5, c6⟩ := Kx.out.crit
  obtain ⟨nm, lo, hi, st, how, tr, rv⟩ := c
  dsimp only [CritA.val, CritA.cells] at *
  clear hc Kx hm
  replace hw := Lib.hid hw
  go_enter Try.func54, Try.ntmps54
  go_upto_region 1 with fail
  rw [hw.out]
  clear hw
  cases rv
  · go_wp2_with fail
    go_ret
    exact ⟨rfl, hx⟩
  · go_wp2_with fail
    go_ret
    exact ⟨rfl, hx⟩
/-- What Better hands back. -/
def betterC (c : CritA) (m : Int) : Int × Int := if rightC c then (if onC c m then (turnC c m, 0) else (0, 160)) else (0, 150)
set_option maxHeartbeats 1000000 in
theorem combine_Better (c : CritA) (hc : c.In) (m : Int) (hm : In64 m) (w : World) : Calls Try.prog 22 #[c.val, .int .i64 m] w fun e w' => e = .returned (.tuple #[.int .i64 (betterC c m).1, .int .i64 (betterC c m).2]) ∧ Ext w w' := by
  obtain ⟨m1, m2⟩ := hm
  obtain ⟨x1, hw, hx, Kx⟩ := crit_box c w
  obtain ⟨R1, hR1⟩ : ∃ R, R = (betterC c m).1 := ⟨_, rfl⟩
  obtain ⟨R2, hR2⟩ : ∃ R, R = (betterC c m).2 := ⟨_, rfl⟩
  rw [← hR1, ← hR2]
  have HC := Lib.hid (combine_right c hc)
  have OT := @on_tmod c m
  obtain ⟨c0, c1, c2, c3, c4, c5, c6⟩ := Kx.out.crit
  have HB := Lib.hid hx
  cases hr : rightC c
  · obtain rfl : R1 = 0 := by rw [hR1]; simp [betterC, hr]
    obtain rfl : R2 = 150 := by rw [hR2]; simp [betterC, hr]
    rw [hr] at HC
    obtain ⟨nm, lo, hi, st, how, tr, rv⟩ := c
    dsimp only [CritA.val, CritA.cells] at *
    clear hc Kx hR1 hR2 hr OT
    replace hw := Lib.hid hw
    go_enter Try.func22, Try.ntmps22
    go_upto_region 1 with fail
    rw [hw.out]
    clear hw
    go_wp2_with fail
    with_reducible refine (HC.out _).mono ?_
    rintro e x2 ⟨rfl, hy⟩
    go_wp2_with fail
    go_ret2
    exact ⟨rfl, hx.trans hy⟩
  · obtain ⟨r1, r2, r3, r4, -, -, -, -, -⟩ := rightC_iff.1 hr
    rw [hr] at HC
    have HN : onC c m = false → R1 = 0 ∧ R2 = 160 := fun h => ⟨by rw [hR1]; simp [betterC, hr, h], by rw [hR2]; simp [betterC, hr, h]⟩
    have HY : onC c m = true → R1 = turnC c m ∧ R2 = 0 := fun h => ⟨by rw [hR1]; simp [betterC, hr, h], by rw [hR2]; simp [betterC, hr, h]⟩
    unfold onC turnC at *
    replace HN := Lib.hid HN
    replace HY := Lib.hid HY
    obtain ⟨nm, lo, hi, st, how, tr, rv⟩ := c
    dsimp only [CritA.val, CritA.cells] at *
    clear hc Kx hR1 hR2 hr
    replace hw := Lib.hid hw
    go_enter Try.func22, Try.ntmps22
    go_upto_region 1 with fail
    rw [hw.out]
    clear hw
    go_wp2_with fail
    with_reducible refine (HC.out _).mono ?_
    rintro e x2 ⟨rfl, hy⟩
    replace hx := hx.trans hy
    replace c1 := cell_exQ hy c1
    replace c2 := cell_exQ hy c2
    replace c3 := cell_exQ hy c3
    replace c6 := cell_exQ hy c6
    clear hy HC c0 c4 c5
    by_cases d1 : lo ≤ m
    · have e1 := Lib.hid (OT d1)
      have q1 : decide (m < lo) = false := decide_eq_false (by omega)
      by_cases d2 : m ≤ hi
      · have g1 : (0 : Int) ≤ m - lo := by omega
        have q2 : decide (hi < m) = false := decide_eq_false (by omega)
        by_cases d3 : (m - lo) % st = 0
        · obtain ⟨rfl, rfl⟩ := HY.out (by simp [d1, d2, d3])
          have e2 : (m - lo).tmod st = 0 := e1.out.trans d3
          clear HN HY OT
          cases rv
          · go_wp2_with fail
            go_ret2
            exact ⟨rfl, hx⟩
          · go_wp2_with fail
            go_ret2
            exact ⟨rfl, hx⟩
        · obtain ⟨rfl, rfl⟩ := HN.out (by simp [d1, d2, d3])
          have e2 : ¬ (m - lo).tmod st = 0 := by rw [e1.out]; exact d3
          clear HN HY OT
          go_wp2_with fail
          go_ret2
          exact ⟨rfl, hx⟩
      · obtain ⟨rfl, rfl⟩ := HN.out (by simp [d1, d2])
        have q2 : decide (hi < m) = true := decide_eq_true (by omega)
        clear HN HY OT
        go_wp2_with fail
        go_ret2
        exact ⟨rfl, hx⟩
    · obtain ⟨rfl, rfl⟩ := HN.out (by simp [d1])
      have q2 : decide (m < lo) = true := decide_eq_true (by omega)
      clear HN HY OT
      go_wp2_with fail
      go_ret2
      exact ⟨rfl, hx⟩
set_option maxHeartbeats 1000000 in
theorem ref16_Better (c : CritA) (hc : c.In) (m : Int) (hm : In64 m) (w : World) : Calls Try.prog 23 #[c.val, .int .i64 m] w fun e w' => e = .returned (.tuple #[.int .i64 (betterC c m).1, .int .i64 (betterC c m).2]) ∧ Ext w w' := by
  obtain ⟨x1, hw, hx, Kx⟩ := crit_box c w
  obtain ⟨R1, hR1⟩ : ∃ R, R = (betterC c m).1 := ⟨_, rfl⟩
  obtain ⟨R2, hR2⟩ : ∃ R, R = (betterC c m).2 := ⟨_, rfl⟩
  rw [← hR1, ← hR2]
  have HC := Lib.hid (ref16_Right c hc)
  have HO := Lib.hid (fun h => ref16_On c hc h m hm)
  have HT := Lib.hid (fun h => ref16_Turn c hc h m)
  cases hr : rightC c
  · obtain rfl : R1 = 0 := by rw [hR1]; simp [betterC, hr]
    obtain rfl : R2 = 150 := by rw [hR2]; simp [betterC, hr]
    rw [hr] at HC
    obtain ⟨c0, c1, c2, c3, c4, c5, c6⟩ := Kx.out.crit
    obtain ⟨nm, lo, hi, st, how, tr, rv⟩ := c
    dsimp only [CritA.val, CritA.cells] at *
    clear hc Kx hR1 hR2 hr HO HT
    replace hw := Lib.hid hw
    go_enter Try.func23, Try.ntmps23
    go_upto_region 1 with fail
    rw [hw.out]
    clear hw
    go_wp2_with fail
    with_reducible refine (HC.out _).mono ?_
    rintro e x2 ⟨rfl, hy⟩
    go_wp2_with fail
    go_ret2
    exact ⟨rfl, hx.trans hy⟩
  · have hrr := rightC_iff.1 hr
    rw [hr] at HC
    have HN : onC c m = false → R1 = 0 ∧ R2 = 160 := fun h => ⟨by rw [hR1]; simp [betterC, hr, h], by rw [hR2]; simp [betterC, hr, h]⟩
    have HY : onC c m = true → R1 = turnC c m ∧ R2 = 0 := fun h => ⟨by rw [hR1]; simp [betterC, hr, h], by rw [hR2]; simp [betterC, hr, h]⟩
    replace HO := Lib.hid (HO.out hrr)
    replace HT := Lib.hid (HT.out hrr)
    clear hrr hr hR1 hR2 hc hm
    cases ho : onC c m
    · obtain ⟨rfl, rfl⟩ := HN ho
      rw [ho] at HO
      obtain ⟨c0, c1, c2, c3, c4, c5, c6⟩ := Kx.out.crit
      obtain ⟨nm, lo, hi, st, how, tr, rv⟩ := c
      dsimp only [CritA.val, CritA.cells] at *
      clear HN HY ho HT
      replace hw := Lib.hid hw
      go_enter Try.func23, Try.ntmps23
      go_upto_region 1 with fail
      rw [hw.out]
      clear hw
      go_wp2_with fail
      with_reducible refine (HC.out _).mono ?_
      rintro e x2 ⟨rfl, hy⟩
      have KK := Lib.hid (Kx.out.ext hy)
      replace hx := hx.trans hy
      clear c0 c1 c2 c3 c4 c5 c6 Kx hy
      obtain ⟨c0, c1, c2, c3, c4, c5, c6⟩ := Blk.crit (c := ⟨nm, lo, hi, st, how, tr, rv⟩) KK.out
      dsimp only at c0 c1 c2 c3 c4 c5 c6
      go_wp2_with fail
      with_reducible refine (HO.out _).mono ?_
      rintro e x3 ⟨rfl, hy⟩
      go_wp2_with fail
      go_ret2
      exact ⟨rfl, hx.trans hy⟩
    · obtain ⟨rfl, rfl⟩ := HY ho
      rw [ho] at HO
      replace HT := Lib.hid (HT.out ho)
      generalize turnC c m = tm at *
      obtain ⟨c0, c1, c2, c3, c4, c5, c6⟩ := Kx.out.crit
      obtain ⟨nm, lo, hi, st, how, tr, rv⟩ := c
      dsimp only [CritA.val, CritA.cells] at *
      clear HN HY ho
      replace hw := Lib.hid hw
      go_enter Try.func23, Try.ntmps23
      go_upto_region 1 with fail
      rw [hw.out]
      clear hw
      go_wp2_with fail
      with_reducible refine (HC.out _).mono ?_
      rintro e x2 ⟨rfl, hy⟩
      have KK := Lib.hid (Kx.out.ext hy)
      replace hx := hx.trans hy
      clear c0 c1 c2 c3 c4 c5 c6 Kx hy
      obtain ⟨c0, c1, c2, c3, c4, c5, c6⟩ := Blk.crit (c := ⟨nm, lo, hi, st, how, tr, rv⟩) KK.out
      dsimp only at c0 c1 c2 c3 c4 c5 c6
      go_wp2_with fail
      with_reducible refine (HO.out _).mono ?_
      rintro e x3 ⟨rfl, hy⟩
      replace KK := Lib.hid (KK.out.ext hy)
      replace hx := hx.trans hy
      clear c0 c1 c2 c3 c4 c5 c6 hy
      obtain ⟨c0, c1, c2, c3, c4, c5, c6⟩ := Blk.crit (c := ⟨nm, lo, hi, st, how, tr, rv⟩) KK.out
      dsimp only at c0 c1 c2 c3 c4 c5 c6
      go_wp2_with fail
      with_reducible refine (HT.out _).mono ?_
      rintro e x4 ⟨rfl, hy⟩
      go_wp2_with fail
      go_ret2
      exact ⟨rfl, hx.trans hy⟩
end Go.Proofs.Ytmcbbhlglccmgaa
