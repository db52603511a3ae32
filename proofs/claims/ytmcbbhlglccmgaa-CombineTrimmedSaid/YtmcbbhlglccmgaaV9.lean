import Derived.Test.YtmcbbhlglccmgaaV8
namespace Go.Proofs.Ytmcbbhlglccmgaa
open Go.RowKit Go BigFrame
set_option maxRecDepth 100000
set_option linter.unusedSimpArgs false
set_option linter.unusedVariables false

/-! Total, both programs. -/
def onAll (c : CritA) (l : List Int) : Bool := l.all (onC c)
theorem onAll_iff {c : CritA} {l : List Int} : onAll c l = true ↔ ∀ x ∈ l, onC c x = true := by simp [onAll, List.all_eq_true]
/-- The error of Total. -/
def totE (c : CritA) (l : List Int) : Int := if rightC c then (if 256 < l.length then 2 else if l.length = 0 ∨ onAll c l = false ∨ (l.length : Int) ≤ 2 * c.tr then 160 else 0) else 150
/-- The total, where there is no error. -/
def totQ (c : CritA) (l : List Int) : Rat :=
  if c.how = 1 then Rat.divInt ((accL c l l.length).sum * (l.length : Int)) (l.length : Int)
  else if c.how = 2 then Rat.divInt ((((accL c l l.length).take (l.length - c.tr.toNat)).drop c.tr.toNat).sum * 1) ((l.length - c.tr.toNat - c.tr.toNat : Nat) : Int)
  else Rat.divInt ((((accL c l l.length).take (l.length / 2 + 1)).drop ((l.length - 1) / 2)).sum * 1) ((l.length / 2 + 1 - (l.length - 1) / 2 : Nat) : Int)
def TotP (c : CritA) (l : List Int) (w : World) (e : Ending) (w' : World) : Prop := (totE c l = 0 → RatP (totQ c l) w e w') ∧ (totE c l ≠ 0 → RatE (totE c l) w e w')
theorem TotP.ok {c : CritA} {l : List Int} {w w' : World} {e : Ending} (h : totE c l = 0) (k : RatP (totQ c l) w e w') : TotP c l w e w' := ⟨fun _ => k, fun hn => absurd h hn⟩
theorem TotP.err {c : CritA} {l : List Int} {w w' : World} {e : Ending} {E : Int} (h : totE c l = E) (h0 : E ≠ 0) (k : RatE E w e w') : TotP c l w e w' := ⟨fun hn => absurd (h.symm.trans hn) h0, fun _ => by rw [h]; exact k⟩
set_option maxHeartbeats 2000000 in
theorem combine_Total_wrong (c : CritA) (hc : c.In) (hr : rightC c = false) (a : Option Addr) (cap : Nat) (l : List Int) (w : World) (h : Ints w a cap l) :
    Calls Try.prog 24 #[c.val, .slice a l.length cap] w (RatE 150 w) := by
  have hle := h.le
  have hmx := h.mx
  have HC := Lib.hid (combine_right c hc)
  rw [hr] at HC
  obtain ⟨nm, lo, hi, st, how, tr, rv⟩ := c
  dsimp only [CritA.val, CritA.cells] at *
  clear h hr hc
  obtain ⟨x1, hw, hx, Kc, Kr, Kn⟩ := boxQ3 w #[.string nm, .int .i64 lo, .int .i64 hi, .int .i64 st, .int .i64 how, .int .i64 tr, .bool rv] 48 #[.bool false, .slice none 0 0, .bool false, .slice none 0 0] 35 #[.int .i64 (l.length : Int)] 3
  replace hw := Lib.hid hw
  go_enter Try.func24, Try.ntmps24
  go_upto_region 2 with fail
  try simp only [Nat.add_assoc, Nat.reduceAdd, Nat.add_zero]
  rw [hw.out]
  clear hw
  have hs0 := hx.size
  have cc0 := Kc.out.cell (i := 0) (v := .string nm) rfl
  have cc1 := Kc.out.cell (i := 1) (v := .int .i64 lo) rfl
  have cc2 := Kc.out.cell (i := 2) (v := .int .i64 hi) rfl
  have cc3 := Kc.out.cell (i := 3) (v := .int .i64 st) rfl
  have cc4 := Kc.out.cell (i := 4) (v := .int .i64 how) rfl
  have cc5 := Kc.out.cell (i := 5) (v := .int .i64 tr) rfl
  have cc6 := Kc.out.cell (i := 6) (v := .bool rv) rfl
  obtain ⟨cr0, cr1, cr2, cr3⟩ := bk4 Kr
  have cn0 := bk1 Kn
  go_wp2_with fail
  with_reducible refine (HC.out _).mono ?_
  clear cc0 cc1 cc2 cc3 cc4 cc5 cc6 cr0 cr1 cr2 cr3 cn0
  rintro e x2 ⟨rfl, hy⟩
  replace hx := hx.trans hy
  replace Kc := kE Kc hy
  replace Kr := kE Kr hy
  replace Kn := kE Kn hy
  clear hy
  have cc0 := Kc.out.cell (i := 0) (v := .string nm) rfl
  have cc1 := Kc.out.cell (i := 1) (v := .int .i64 lo) rfl
  have cc2 := Kc.out.cell (i := 2) (v := .int .i64 hi) rfl
  have cc3 := Kc.out.cell (i := 3) (v := .int .i64 st) rfl
  have cc4 := Kc.out.cell (i := 4) (v := .int .i64 how) rfl
  have cc5 := Kc.out.cell (i := 5) (v := .int .i64 tr) rfl
  have cc6 := Kc.out.cell (i := 6) (v := .bool rv) rfl
  obtain ⟨cr0, cr1, cr2, cr3⟩ := bk4 Kr
  have cn0 := bk1 Kn
  obtain ⟨g0, z0, g1, z1, g2, z2, g3, z3⟩ := bp4 Kr (.bool false) (.slice none 0 0) (.bool false) (.slice none 0 0)
  go_wp2_with fail
  clear g0 z0 g1 z1 g2 z2 g3 z3
  clear cc0 cc1 cc2 cc3 cc4 cc5 cc6 cr0 cr1 cr2 cr3 cn0
  replace hx := bx4 hx (w.heap.size + 1) (.bool false) (.slice none 0 0) (.bool false) (.slice none 0 0) (by omega)
  replace Kc := bo4 Kc (w.heap.size + 1) (.bool false) (.slice none 0 0) (.bool false) (.slice none 0 0) (by omega)
  replace Kr := bs4 Kr (.bool false) (.slice none 0 0) (.bool false) (.slice none 0 0)
  replace Kn := bo4 Kn (w.heap.size + 1) (.bool false) (.slice none 0 0) (.bool false) (.slice none 0 0) (by omega)
  generalize ((((x2).setCell ⟨w.heap.size + 1, 0, none⟩ (.bool false)).setCell ⟨w.heap.size + 1, 1, none⟩ (.slice none 0 0)).setCell ⟨w.heap.size + 1, 2, none⟩ (.bool false)).setCell ⟨w.heap.size + 1, 3, none⟩ (.slice none 0 0) = x3 at *
  obtain ⟨cr0, cr1, cr2, cr3⟩ := bk4 Kr
  refine bodyPost_ret (v := .tuple #[.agg #[.bool false, .slice none 0 0, .bool false, .slice none 0 0], .int .i64 150]) (by simp [results, Try.results24, go_sem, cr0, cr1, cr2, cr3]) rfl ?_
  exact ⟨rfl, hx⟩
set_option maxHeartbeats 2000000 in
theorem combine_Total_over (c : CritA) (hc : c.In) (hr : rightC c = true) (a : Option Addr) (cap : Nat) (l : List Int) (w : World) (h : Ints w a cap l) (hl : 256 < l.length) (hl2 : l.length ≤ 1000) :
    Calls Try.prog 24 #[c.val, .slice a l.length cap] w (RatE 2 w) := by
  have hle := h.le
  have hmx := h.mx
  have HC := Lib.hid (combine_right c hc)
  rw [hr] at HC
  obtain ⟨nm, lo, hi, st, how, tr, rv⟩ := c
  dsimp only [CritA.val, CritA.cells] at *
  clear h hr hc
  obtain ⟨x1, hw, hx, Kc, Kr, Kn⟩ := boxQ3 w #[.string nm, .int .i64 lo, .int .i64 hi, .int .i64 st, .int .i64 how, .int .i64 tr, .bool rv] 48 #[.bool false, .slice none 0 0, .bool false, .slice none 0 0] 35 #[.int .i64 (l.length : Int)] 3
  replace hw := Lib.hid hw
  go_enter Try.func24, Try.ntmps24
  go_upto_region 2 with fail
  try simp only [Nat.add_assoc, Nat.reduceAdd, Nat.add_zero]
  rw [hw.out]
  clear hw
  have hs0 := hx.size
  have cc0 := Kc.out.cell (i := 0) (v := .string nm) rfl
  have cc1 := Kc.out.cell (i := 1) (v := .int .i64 lo) rfl
  have cc2 := Kc.out.cell (i := 2) (v := .int .i64 hi) rfl
  have cc3 := Kc.out.cell (i := 3) (v := .int .i64 st) rfl
  have cc4 := Kc.out.cell (i := 4) (v := .int .i64 how) rfl
  have cc5 := Kc.out.cell (i := 5) (v := .int .i64 tr) rfl
  have cc6 := Kc.out.cell (i := 6) (v := .bool rv) rfl
  obtain ⟨cr0, cr1, cr2, cr3⟩ := bk4 Kr
  have cn0 := bk1 Kn
  go_wp2_with fail
  with_reducible refine (HC.out _).mono ?_
  clear cc0 cc1 cc2 cc3 cc4 cc5 cc6 cr0 cr1 cr2 cr3 cn0
  rintro e x2 ⟨rfl, hy⟩
  replace hx := hx.trans hy
  replace Kc := kE Kc hy
  replace Kr := kE Kr hy
  replace Kn := kE Kn hy
  clear hy
  have t0 : decide ((256 : Int) < (l.length : Int)) = true := decide_eq_true (by omega)
  have t0n : 256 < l.length := hl
  have cc0 := Kc.out.cell (i := 0) (v := .string nm) rfl
  have cc1 := Kc.out.cell (i := 1) (v := .int .i64 lo) rfl
  have cc2 := Kc.out.cell (i := 2) (v := .int .i64 hi) rfl
  have cc3 := Kc.out.cell (i := 3) (v := .int .i64 st) rfl
  have cc4 := Kc.out.cell (i := 4) (v := .int .i64 how) rfl
  have cc5 := Kc.out.cell (i := 5) (v := .int .i64 tr) rfl
  have cc6 := Kc.out.cell (i := 6) (v := .bool rv) rfl
  obtain ⟨cr0, cr1, cr2, cr3⟩ := bk4 Kr
  have cn0 := bk1 Kn
  obtain ⟨g0, z0, g1, z1, g2, z2, g3, z3⟩ := bp4 Kr (.bool false) (.slice none 0 0) (.bool false) (.slice none 0 0)
  go_wp2_with fail
  clear g0 z0 g1 z1 g2 z2 g3 z3
  clear cc0 cc1 cc2 cc3 cc4 cc5 cc6 cr0 cr1 cr2 cr3 cn0
  replace hx := bx4 hx (w.heap.size + 1) (.bool false) (.slice none 0 0) (.bool false) (.slice none 0 0) (by omega)
  replace Kc := bo4 Kc (w.heap.size + 1) (.bool false) (.slice none 0 0) (.bool false) (.slice none 0 0) (by omega)
  replace Kr := bs4 Kr (.bool false) (.slice none 0 0) (.bool false) (.slice none 0 0)
  replace Kn := bo4 Kn (w.heap.size + 1) (.bool false) (.slice none 0 0) (.bool false) (.slice none 0 0) (by omega)
  generalize ((((x2).setCell ⟨w.heap.size + 1, 0, none⟩ (.bool false)).setCell ⟨w.heap.size + 1, 1, none⟩ (.slice none 0 0)).setCell ⟨w.heap.size + 1, 2, none⟩ (.bool false)).setCell ⟨w.heap.size + 1, 3, none⟩ (.slice none 0 0) = x3 at *
  obtain ⟨cr0, cr1, cr2, cr3⟩ := bk4 Kr
  refine bodyPost_ret (v := .tuple #[.agg #[.bool false, .slice none 0 0, .bool false, .slice none 0 0], .int .i64 2]) (by simp [results, Try.results24, go_sem, cr0, cr1, cr2, cr3]) rfl ?_
  exact ⟨rfl, hx⟩
set_option maxHeartbeats 2000000 in
theorem ref16_Total_wrong (c : CritA) (hc : c.In) (hr : rightC c = false) (a : Option Addr) (cap : Nat) (l : List Int) (w : World) (h : Ints w a cap l) :
    Calls Try.prog 25 #[c.val, .slice a l.length cap] w (RatE 150 w) := by
  have hle := h.le
  have hmx := h.mx
  have HC := Lib.hid (ref16_Right c hc)
  rw [hr] at HC
  obtain ⟨nm, lo, hi, st, how, tr, rv⟩ := c
  dsimp only [CritA.val, CritA.cells] at *
  clear h hr hc
  obtain ⟨x1, hw, hx, Kc, Kr⟩ := boxQ2 w #[.string nm, .int .i64 lo, .int .i64 hi, .int .i64 st, .int .i64 how, .int .i64 tr, .bool rv] 48 #[.bool false, .slice none 0 0, .bool false, .slice none 0 0] 35
  replace hw := Lib.hid hw
  go_enter Try.func25, Try.ntmps25
  go_upto_region 1 with fail
  try simp only [Nat.add_assoc, Nat.reduceAdd, Nat.add_zero]
  rw [hw.out]
  clear hw
  have hs0 := hx.size
  have cc0 := Kc.out.cell (i := 0) (v := .string nm) rfl
  have cc1 := Kc.out.cell (i := 1) (v := .int .i64 lo) rfl
  have cc2 := Kc.out.cell (i := 2) (v := .int .i64 hi) rfl
  have cc3 := Kc.out.cell (i := 3) (v := .int .i64 st) rfl
  have cc4 := Kc.out.cell (i := 4) (v := .int .i64 how) rfl
  have cc5 := Kc.out.cell (i := 5) (v := .int .i64 tr) rfl
  have cc6 := Kc.out.cell (i := 6) (v := .bool rv) rfl
  obtain ⟨cr0, cr1, cr2, cr3⟩ := bk4 Kr
  go_wp2_with fail
  with_reducible refine (HC.out _).mono ?_
  clear cc0 cc1 cc2 cc3 cc4 cc5 cc6 cr0 cr1 cr2 cr3
  rintro e x2 ⟨rfl, hy⟩
  replace hx := hx.trans hy
  replace Kc := kE Kc hy
  replace Kr := kE Kr hy
  clear hy
  have cc0 := Kc.out.cell (i := 0) (v := .string nm) rfl
  have cc1 := Kc.out.cell (i := 1) (v := .int .i64 lo) rfl
  have cc2 := Kc.out.cell (i := 2) (v := .int .i64 hi) rfl
  have cc3 := Kc.out.cell (i := 3) (v := .int .i64 st) rfl
  have cc4 := Kc.out.cell (i := 4) (v := .int .i64 how) rfl
  have cc5 := Kc.out.cell (i := 5) (v := .int .i64 tr) rfl
  have cc6 := Kc.out.cell (i := 6) (v := .bool rv) rfl
  obtain ⟨cr0, cr1, cr2, cr3⟩ := bk4 Kr
  obtain ⟨g0, z0, g1, z1, g2, z2, g3, z3⟩ := bp4 Kr (.bool false) (.slice none 0 0) (.bool false) (.slice none 0 0)
  go_wp2_with fail
  clear g0 z0 g1 z1 g2 z2 g3 z3
  clear cc0 cc1 cc2 cc3 cc4 cc5 cc6 cr0 cr1 cr2 cr3
  replace hx := bx4 hx (w.heap.size + 1) (.bool false) (.slice none 0 0) (.bool false) (.slice none 0 0) (by omega)
  replace Kc := bo4 Kc (w.heap.size + 1) (.bool false) (.slice none 0 0) (.bool false) (.slice none 0 0) (by omega)
  replace Kr := bs4 Kr (.bool false) (.slice none 0 0) (.bool false) (.slice none 0 0)
  generalize ((((x2).setCell ⟨w.heap.size + 1, 0, none⟩ (.bool false)).setCell ⟨w.heap.size + 1, 1, none⟩ (.slice none 0 0)).setCell ⟨w.heap.size + 1, 2, none⟩ (.bool false)).setCell ⟨w.heap.size + 1, 3, none⟩ (.slice none 0 0) = x3 at *
  obtain ⟨cr0, cr1, cr2, cr3⟩ := bk4 Kr
  refine bodyPost_ret (v := .tuple #[.agg #[.bool false, .slice none 0 0, .bool false, .slice none 0 0], .int .i64 150]) (by simp [results, Try.results25, go_sem, cr0, cr1, cr2, cr3]) rfl ?_
  exact ⟨rfl, hx⟩
set_option maxHeartbeats 2000000 in
theorem ref16_Total_over (c : CritA) (hc : c.In) (hr : rightC c = true) (a : Option Addr) (cap : Nat) (l : List Int) (w : World) (h : Ints w a cap l) (hl : 256 < l.length) (hl2 : l.length ≤ 1000) :
    Calls Try.prog 25 #[c.val, .slice a l.length cap] w (RatE 2 w) := by
  have hle := h.le
  have hmx := h.mx
  have HC := Lib.hid (ref16_Right c hc)
  rw [hr] at HC
  obtain ⟨nm, lo, hi, st, how, tr, rv⟩ := c
  dsimp only [CritA.val, CritA.cells] at *
  clear h hr hc
  obtain ⟨x1, hw, hx, Kc, Kr⟩ := boxQ2 w #[.string nm, .int .i64 lo, .int .i64 hi, .int .i64 st, .int .i64 how, .int .i64 tr, .bool rv] 48 #[.bool false, .slice none 0 0, .bool false, .slice none 0 0] 35
  replace hw := Lib.hid hw
  go_enter Try.func25, Try.ntmps25
  go_upto_region 1 with fail
  try simp only [Nat.add_assoc, Nat.reduceAdd, Nat.add_zero]
  rw [hw.out]
  clear hw
  have hs0 := hx.size
  have cc0 := Kc.out.cell (i := 0) (v := .string nm) rfl
  have cc1 := Kc.out.cell (i := 1) (v := .int .i64 lo) rfl
  have cc2 := Kc.out.cell (i := 2) (v := .int .i64 hi) rfl
  have cc3 := Kc.out.cell (i := 3) (v := .int .i64 st) rfl
  have cc4 := Kc.out.cell (i := 4) (v := .int .i64 how) rfl
  have cc5 := Kc.out.cell (i := 5) (v := .int .i64 tr) rfl
  have cc6 := Kc.out.cell (i := 6) (v := .bool rv) rfl
  obtain ⟨cr0, cr1, cr2, cr3⟩ := bk4 Kr
  go_wp2_with fail
  with_reducible refine (HC.out _).mono ?_
  clear cc0 cc1 cc2 cc3 cc4 cc5 cc6 cr0 cr1 cr2 cr3
  rintro e x2 ⟨rfl, hy⟩
  replace hx := hx.trans hy
  replace Kc := kE Kc hy
  replace Kr := kE Kr hy
  clear hy
  have t0 : decide ((256 : Int) < (l.length : Int)) = true := decide_eq_true (by omega)
  have t0n : 256 < l.length := hl
  have cc0 := Kc.out.cell (i := 0) (v := .string nm) rfl
  have cc1 := Kc.out.cell (i := 1) (v := .int .i64 lo) rfl
  have cc2 := Kc.out.cell (i := 2) (v := .int .i64 hi) rfl
  have cc3 := Kc.out.cell (i := 3) (v := .int .i64 st) rfl
  have cc4 := Kc.out.cell (i := 4) (v := .int .i64 how) rfl
  have cc5 := Kc.out.cell (i := 5) (v := .int .i64 tr) rfl
  have cc6 := Kc.out.cell (i := 6) (v := .bool rv) rfl
  obtain ⟨cr0, cr1, cr2, cr3⟩ := bk4 Kr
  obtain ⟨g0, z0, g1, z1, g2, z2, g3, z3⟩ := bp4 Kr (.bool false) (.slice none 0 0) (.bool false) (.slice none 0 0)
  go_wp2_with fail
  clear g0 z0 g1 z1 g2 z2 g3 z3
  clear cc0 cc1 cc2 cc3 cc4 cc5 cc6 cr0 cr1 cr2 cr3
  replace hx := bx4 hx (w.heap.size + 1) (.bool false) (.slice none 0 0) (.bool false) (.slice none 0 0) (by omega)
  replace Kc := bo4 Kc (w.heap.size + 1) (.bool false) (.slice none 0 0) (.bool false) (.slice none 0 0) (by omega)
  replace Kr := bs4 Kr (.bool false) (.slice none 0 0) (.bool false) (.slice none 0 0)
  generalize ((((x2).setCell ⟨w.heap.size + 1, 0, none⟩ (.bool false)).setCell ⟨w.heap.size + 1, 1, none⟩ (.slice none 0 0)).setCell ⟨w.heap.size + 1, 2, none⟩ (.bool false)).setCell ⟨w.heap.size + 1, 3, none⟩ (.slice none 0 0) = x3 at *
  obtain ⟨cr0, cr1, cr2, cr3⟩ := bk4 Kr
  refine bodyPost_ret (v := .tuple #[.agg #[.bool false, .slice none 0 0, .bool false, .slice none 0 0], .int .i64 2]) (by simp [results, Try.results25, go_sem, cr0, cr1, cr2, cr3]) rfl ?_
  exact ⟨rfl, hx⟩
theorem combine_Total (c : CritA) (hc : c.In) (a : Option Addr) (cap : Nat) (l : List Int) (w : World) (h : Ints w a cap l) (hl2 : l.length ≤ 1000) : Calls Try.prog 24 #[c.val, .slice a l.length cap] w (TotP c l w) := by
  cases hr : rightC c
  · exact (combine_Total_wrong c hc hr a cap l w h).mono fun _ _ k => .err (by simp [totE, hr]) (by omega) k
  by_cases h1 : 256 < l.length
  · exact (combine_Total_over c hc hr a cap l w h h1 hl2).mono fun _ _ k => .err (by simp [totE, hr, h1]) (by omega) k
  have h1' : l.length ≤ 256 := by omega
  have hrr := rightC_iff.1 hr
  by_cases h2 : l.length = 0
  · exact (combine_Total_none c hc hr a cap l w h h1' h2).mono fun _ _ k => .err (by simp [totE, hr, h1, h2]) (by omega) k
  have h2' : 0 < l.length := by omega
  by_cases h3 : ∀ x ∈ l, onC c x = true
  · have h3' := bet_short.2 h3
    have h3b := onAll_iff.2 h3
    by_cases h4 : (l.length : Int) ≤ 2 * c.tr
    · exact (combine_Total_few c hc hr a cap l w h h1' h2' h3' h4).mono fun _ _ k => .err (by simp [totE, hr, h1, h2, h3b, h4]) (by omega) k
    have he : totE c l = 0 := by simp only [totE, hr, h1, h2, h3b, h4]; simp
    have es := srtC_acc h3
    rcases hrr.how with h5 | h5 | h5
    · have k := combine_Total_sum c hc hr a cap l w h h1' h5 h2' h3'
      rw [es] at k
      exact k.mono fun _ _ k => .ok he (by simp only [totQ, h5]; exact k)
    · have k := combine_Total_mean c hc hr a cap l w h h1' h5 (by omega) h3'
      rw [es] at k
      exact k.mono fun _ _ k => .ok he (by simp only [totQ, h5]; exact k)
    · have k := combine_Total_median c hc hr a cap l w h h1' h5 h2' h3'
      rw [es] at k
      exact k.mono fun _ _ k => .ok he (by simp only [totQ, h5]; exact k)
  · have h3b : onAll c l = false := Bool.eq_false_iff.2 (fun e => h3 (onAll_iff.1 e))
    have h3' : (bet c l).length < l.length := by
      have h6 : (bet c l).length ≤ l.length := by unfold bet; rw [List.length_map]; exact (List.takeWhile_prefix _).length_le
      exact Nat.lt_of_le_of_ne h6 (fun e => h3 (bet_short.1 e))
    exact (combine_Total_off c hc hr a cap l w h h1' h2' h3').mono fun _ _ k => .err (by simp [totE, hr, h1, h2, h3b]) (by omega) k
theorem ref16_Total (c : CritA) (hc : c.In) (a : Option Addr) (cap : Nat) (l : List Int) (w : World) (h : Ints w a cap l) (hl2 : l.length ≤ 1000) : Calls Try.prog 25 #[c.val, .slice a l.length cap] w (TotP c l w) := by
  cases hr : rightC c
  · exact (ref16_Total_wrong c hc hr a cap l w h).mono fun _ _ k => .err (by simp [totE, hr]) (by omega) k
  by_cases h1 : 256 < l.length
  · exact (ref16_Total_over c hc hr a cap l w h h1 hl2).mono fun _ _ k => .err (by simp [totE, hr, h1]) (by omega) k
  have h1' : l.length ≤ 256 := by omega
  have hrr := rightC_iff.1 hr
  by_cases h2 : l.length = 0
  · exact (ref16_Total_none c hc hr a cap l w h h1' h2).mono fun _ _ k => .err (by simp [totE, hr, h1, h2]) (by omega) k
  have h2' : 0 < l.length := by omega
  by_cases h4 : (l.length : Int) ≤ 2 * c.tr
  · exact (ref16_Total_few c hc hr a cap l w h h1' h2' h4).mono fun _ _ k => .err (by simp [totE, hr, h1, h2, h4]) (by omega) k
  by_cases h3 : ∀ x ∈ l, onC c x = true
  · have h3b := onAll_iff.2 h3
    have he : totE c l = 0 := by simp only [totE, hr, h1, h2, h3b, h4]; simp
    have es := srtC_acc h3
    rcases hrr.how with h5 | h5 | h5
    · have k := ref16_Total_sum c hc hr a cap l w h h1' h5 h2' h3
      rw [es] at k
      exact k.mono fun _ _ k => .ok he (by simp only [totQ, h5]; exact k)
    · have k := ref16_Total_mean c hc hr a cap l w h h1' h5 (by omega) h3
      rw [es] at k
      exact k.mono fun _ _ k => .ok he (by simp only [totQ, h5]; exact k)
    · have k := ref16_Total_median c hc hr a cap l w h h1' h5 h2' h3
      rw [es] at k
      exact k.mono fun _ _ k => .ok he (by simp only [totQ, h5]; exact k)
  · have h3b : onAll c l = false := Bool.eq_false_iff.2 (fun e => h3 (onAll_iff.1 e))
    rcases hrr.how with h5 | h5 | h5
    · exact (ref16_Total_off1 c hc hr a cap l w h h1' h5 h2' h3).mono fun _ _ k => .err (by simp [totE, hr, h1, h2, h3b]) (by omega) k
    · exact (ref16_Total_off2 c hc hr a cap l w h h1' h5 (by omega) h3).mono fun _ _ k => .err (by simp [totE, hr, h1, h2, h3b]) (by omega) k
    · exact (ref16_Total_off3 c hc hr a cap l w h h1' h5 h2' h3).mono fun _ _ k => .err (by simp [totE, hr, h1, h2, h3b]) (by omega) k
end Go.Proofs.Ytmcbbhlglccmgaa
