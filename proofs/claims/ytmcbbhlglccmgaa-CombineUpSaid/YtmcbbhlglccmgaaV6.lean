import Derived.Test.YtmcbbhlglccmgaaV5
import Derived.Test.YtmcbbhlglccmgaaVMap
namespace Go.Proofs.Ytmcbbhlglccmgaa
open Go.RowKit Go Go.Shelf
set_option maxRecDepth 100000
set_option linter.unusedSimpArgs false
set_option linter.unusedVariables false

/-! combine.Total. -/
theorem Ints.window {w : World} {b o cap : Nat} {S : List Int} (h : Ints w (some ⟨b, o, none⟩) cap S) {lo hi mx : Nat} (h1 : lo ≤ hi) (h2 : hi ≤ S.length) (h3 : hi ≤ mx) (h4 : mx ≤ cap) : Ints w (some ⟨b, o + lo, none⟩) (mx - lo) ((S.take hi).drop lo) := by
  have hm := h.mx
  refine ⟨by simp; omega, by omega, by simp, fun A hA i hi' => ?_⟩
  cases hA
  have hi2 : lo + i < S.length := by simp at hi'; omega
  obtain ⟨e1, e2, e3⟩ := h.cell hi2
  refine ⟨rfl, _, by rw [show o + lo + i = o + (lo + i) by omega]; exact e1, ?_⟩
  have : ((S.take hi).drop lo)[i] = S[lo + i] := by simp
  exact ⟨by rw [this], by rw [this]; exact e2, by rw [this]; exact e3⟩
theorem window_len {S : List Int} {lo hi : Nat} (h1 : lo ≤ hi) (h2 : hi ≤ S.length) : ((S.take hi).drop lo).length = hi - lo := by simp; omega
theorem window_mem {S : List Int} {lo hi : Nat} {P : Int → Prop} (h : ∀ x ∈ S, P x) : ∀ x ∈ (S.take hi).drop lo, P x := fun x hx => h x (List.mem_of_mem_take (List.mem_of_mem_drop hx))
set_option maxHeartbeats 2000000 in
theorem total_way1 {pl pn n : Nat} {al : Option Addr} {cl : Nat} {S : List Int} {w : World} (c1 : w.cell? ⟨pl, 0, none⟩ = some (.slice al S.length cl)) (c2 : w.cell? ⟨pn, 0, none⟩ = some (.int .i64 (n : Int))) (hS : Ints w al cl S) (hal : ∃ b, al = some ⟨b, 0, none⟩) (hb : ∀ x ∈ S, 0 ≤ x ∧ x ≤ 1000) (hn : S.length = n) (h0 : 0 < n) (hn2 : n ≤ 1000) :
    Calls Try.prog 57 #[.pointer (some ⟨pl, 0, none⟩), .pointer (some ⟨pn, 0, none⟩)] w (RatP (Rat.divInt (S.sum * (n : Int)) (n : Int)) w) := by
  have hle := hS.le
  have hmx := hS.mx
  obtain ⟨b, rfl⟩ := hal
  have HS := Lib.hid hS
  have HC1 := Lib.hid c1
  have HC2 := Lib.hid c2
  clear c1 c2
  have HM := Lib.hid (fun w' (h' : Ext w w') => combine_mean (some ⟨b, 0, none⟩) cl S (n : Int) w' (HS.out.ext h') ⟨by omega, by omega⟩ hb ⟨by omega, by omega⟩)
  rw [hn] at *
  generalize Rat.divInt (S.sum * (n : Int)) (n : Int) = RR at *
  obtain ⟨x1, hw, hx, Kr⟩ := boxQ1 w #[.bool false, .slice none 0 0, .bool false, .slice none 0 0] 35
  replace hw := Lib.hid hw
  go_enter Try.func57, Try.ntmps57
  go_upto_region 1 with fail
  try simp only [Nat.add_assoc, Nat.reduceAdd, Nat.add_zero]
  rw [hw.out]
  clear hw
  have hs0 := hx.size
  have d1 := cell_exQ hx HC1.out
  have d2 := cell_exQ hx HC2.out
  have HS2 := Lib.hid (HS.out.ext hx)
  replace HM := Lib.hid (HM.out _ hx)
  clear d1 d2
  have d1 := cell_exQ hx HC1.out
  have d2 := cell_exQ hx HC2.out
  obtain ⟨cr0, cr1, cr2, cr3⟩ := bk4 Kr
  have hsz := hx.size
  go_wp2_with fail
  refine (HM.out).mono ?_
  clear cr0 cr1 cr2 cr3
  rintro e x2 ⟨v, rfl, hv, hy⟩
  replace hx := hx.trans hy
  replace Kr := kE Kr hy
  clear hy
  obtain ⟨nv, av, qv, cv, bv, kv, dv, rfl, hv', hf', hg'⟩ := hv
  have Vv := Lib.hid hv'
  have Fv := Lib.hid (fun A hA => Nat.le_trans hsz (hf' A hA))
  have Gv := Lib.hid (fun A hA => Nat.le_trans hsz (hg' A hA))
  clear hv' hf' hg' hsz
  obtain ⟨cr0, cr1, cr2, cr3⟩ := bk4 Kr
  obtain ⟨g0, z0, g1, z1, g2, z2, g3, z3⟩ := bp4 Kr (.bool nv) (.slice av qv cv) (.bool false) (.slice bv kv dv)
  go_wp2_with fail
  clear g0 z0 g1 z1 g2 z2 g3 z3
  clear cr0 cr1 cr2 cr3
  replace Vv := (by first | exact rv4 Vv Kr (.bool nv) (.slice av qv cv) (.bool false) (.slice bv kv dv) rfl rfl rfl rfl | exact bv4 Vv Kr (.bool nv) (.slice av qv cv) (.bool false) (.slice bv kv dv) rfl rfl rfl rfl)
  replace hx := bx4 hx (w.heap.size) (.bool nv) (.slice av qv cv) (.bool false) (.slice bv kv dv) (by omega)
  replace Kr := bs4 Kr (.bool nv) (.slice av qv cv) (.bool false) (.slice bv kv dv)
  generalize ((((x2).setCell ⟨w.heap.size, 0, none⟩ (.bool nv)).setCell ⟨w.heap.size, 1, none⟩ (.slice av qv cv)).setCell ⟨w.heap.size, 2, none⟩ (.bool false)).setCell ⟨w.heap.size, 3, none⟩ (.slice bv kv dv) = x3 at *
  obtain ⟨cr0, cr1, cr2, cr3⟩ := bk4 Kr
  refine bodyPost_ret (v := .tuple #[.agg #[.bool nv, .slice av qv cv, .bool false, .slice bv kv dv], .int .i64 0]) (by simp [results, Try.results57, go_sem, cr0, cr1, cr2, cr3]) rfl ?_
  exact ⟨_, rfl, ⟨_, _, _, _, _, _, _, rfl, Vv.out, Fv.out, Gv.out⟩, hx⟩
set_option maxHeartbeats 2000000 in
theorem total_way2 {pl pn n pc tr : Nat} {al : Option Addr} {cl : Nat} {S : List Int} {w : World} (c1 : w.cell? ⟨pl, 0, none⟩ = some (.slice al S.length cl)) (c2 : w.cell? ⟨pn, 0, none⟩ = some (.int .i64 (n : Int))) (hS : Ints w al cl S) (hal : ∃ b, al = some ⟨b, 0, none⟩) (hb : ∀ x ∈ S, 0 ≤ x ∧ x ≤ 1000) (hn : S.length = n) (h0 : 0 < n) (hn2 : n ≤ 1000) (c3 : w.cell? ⟨pc, 5, none⟩ = some (.int .i64 (tr : Int))) (ht : 2 * tr < n) :
    Calls Try.prog 59 #[.pointer (some ⟨pl, 0, none⟩), .pointer (some ⟨pc, 0, none⟩), .pointer (some ⟨pn, 0, none⟩)] w (RatP (Rat.divInt (((S.take (n - tr)).drop (tr)).sum * 1) ((n - tr - (tr) : Nat) : Int)) w) := by
  have hle := hS.le
  have hmx := hS.mx
  obtain ⟨b, rfl⟩ := hal
  have HS := Lib.hid hS
  have HC1 := Lib.hid c1
  have HC2 := Lib.hid c2
  have HC3 := Lib.hid c3
  clear c1 c2 c3
  obtain ⟨i, hi⟩ : ∃ i, i = tr := ⟨_, rfl⟩
  obtain ⟨j, hj⟩ : ∃ j, j = n - tr := ⟨_, rfl⟩
  rw [← hj, ← hi]
  have hM := fun w' (h' : Ext w w') => combine_mean (some ⟨b, 0 + i, none⟩) (n - i) ((S.take j).drop i) 1 w' ((HS.out.ext h').window (by omega) (by omega) (by omega) (by omega)) ⟨by rw [window_len (by omega) (by omega)]; omega, by rw [window_len (by omega) (by omega)]; omega⟩ (window_mem hb) ⟨by omega, by omega⟩
  rw [window_len (by omega) (by omega)] at hM
  generalize Rat.divInt (((S.take j).drop i).sum * 1) ((j - i : Nat) : Int) = RR at *
  have HM := Lib.hid hM
  clear hM
  obtain ⟨x1, hw, hx, Kr⟩ := boxQ1 w #[.bool false, .slice none 0 0, .bool false, .slice none 0 0] 35
  replace hw := Lib.hid hw
  go_enter Try.func59, Try.ntmps59
  go_upto_region 1 with fail
  try simp only [Nat.add_assoc, Nat.reduceAdd, Nat.add_zero]
  rw [hw.out]
  clear hw
  have hs0 := hx.size
  have d1 := cell_exQ hx HC1.out
  have d2 := cell_exQ hx HC2.out
  have d3 := cell_exQ hx HC3.out
  replace HM := Lib.hid (HM.out _ hx)
  subst hi hj
  rw [Nat.zero_add] at HM
  obtain ⟨cr0, cr1, cr2, cr3⟩ := bk4 Kr
  have hsz := hx.size
  go_wp2_with fail
  with_reducible refine (HM.out).mono ?_
  clear cr0 cr1 cr2 cr3
  rintro e x2 ⟨v, rfl, hv, hy⟩
  replace hx := hx.trans hy
  replace Kr := kE Kr hy
  clear hy
  obtain ⟨nv, av, qv, cv, bv, kv, dv, rfl, hv', hf', hg'⟩ := hv
  have Vv := Lib.hid hv'
  have Fv := Lib.hid (fun A hA => Nat.le_trans hsz (hf' A hA))
  have Gv := Lib.hid (fun A hA => Nat.le_trans hsz (hg' A hA))
  clear hv' hf' hg' hsz
  obtain ⟨cr0, cr1, cr2, cr3⟩ := bk4 Kr
  obtain ⟨g0, z0, g1, z1, g2, z2, g3, z3⟩ := bp4 Kr (.bool nv) (.slice av qv cv) (.bool false) (.slice bv kv dv)
  go_wp2_with fail
  clear g0 z0 g1 z1 g2 z2 g3 z3
  clear cr0 cr1 cr2 cr3
  replace Vv := (by first | exact rv4 Vv Kr (.bool nv) (.slice av qv cv) (.bool false) (.slice bv kv dv) rfl rfl rfl rfl | exact bv4 Vv Kr (.bool nv) (.slice av qv cv) (.bool false) (.slice bv kv dv) rfl rfl rfl rfl)
  replace hx := bx4 hx (w.heap.size) (.bool nv) (.slice av qv cv) (.bool false) (.slice bv kv dv) (by omega)
  replace Kr := bs4 Kr (.bool nv) (.slice av qv cv) (.bool false) (.slice bv kv dv)
  generalize ((((x2).setCell ⟨w.heap.size, 0, none⟩ (.bool nv)).setCell ⟨w.heap.size, 1, none⟩ (.slice av qv cv)).setCell ⟨w.heap.size, 2, none⟩ (.bool false)).setCell ⟨w.heap.size, 3, none⟩ (.slice bv kv dv) = x3 at *
  obtain ⟨cr0, cr1, cr2, cr3⟩ := bk4 Kr
  refine bodyPost_ret (v := .tuple #[.agg #[.bool nv, .slice av qv cv, .bool false, .slice bv kv dv], .int .i64 0]) (by simp [results, Try.results59, go_sem, cr0, cr1, cr2, cr3]) rfl ?_
  exact ⟨_, rfl, ⟨_, _, _, _, _, _, _, rfl, Vv.out, Fv.out, Gv.out⟩, hx⟩
set_option maxHeartbeats 2000000 in
theorem total_way3 {pl pn n : Nat} {al : Option Addr} {cl : Nat} {S : List Int} {w : World} (c1 : w.cell? ⟨pl, 0, none⟩ = some (.slice al S.length cl)) (c2 : w.cell? ⟨pn, 0, none⟩ = some (.int .i64 (n : Int))) (hS : Ints w al cl S) (hal : ∃ b, al = some ⟨b, 0, none⟩) (hb : ∀ x ∈ S, 0 ≤ x ∧ x ≤ 1000) (hn : S.length = n) (h0 : 0 < n) (hn2 : n ≤ 1000) :
    Calls Try.prog 60 #[.pointer (some ⟨pl, 0, none⟩), .pointer (some ⟨pn, 0, none⟩)] w (RatP (Rat.divInt (((S.take (n / 2 + 1)).drop ((n - 1) / 2)).sum * 1) ((n / 2 + 1 - ((n - 1) / 2) : Nat) : Int)) w) := by
  have hle := hS.le
  have hmx := hS.mx
  obtain ⟨b, rfl⟩ := hal
  have HS := Lib.hid hS
  have HC1 := Lib.hid c1
  have HC2 := Lib.hid c2
  clear c1 c2
  obtain ⟨i, hi⟩ : ∃ i, i = (n - 1) / 2 := ⟨_, rfl⟩
  obtain ⟨j, hj⟩ : ∃ j, j = n / 2 + 1 := ⟨_, rfl⟩
  rw [← hj, ← hi]
  have hM := fun w' (h' : Ext w w') => combine_mean (some ⟨b, 0 + i, none⟩) (n - i) ((S.take j).drop i) 1 w' ((HS.out.ext h').window (by omega) (by omega) (by omega) (by omega)) ⟨by rw [window_len (by omega) (by omega)]; omega, by rw [window_len (by omega) (by omega)]; omega⟩ (window_mem hb) ⟨by omega, by omega⟩
  rw [window_len (by omega) (by omega)] at hM
  generalize Rat.divInt (((S.take j).drop i).sum * 1) ((j - i : Nat) : Int) = RR at *
  have HM := Lib.hid hM
  clear hM
  obtain ⟨x1, hw, hx, Kr⟩ := boxQ1 w #[.bool false, .slice none 0 0, .bool false, .slice none 0 0] 35
  replace hw := Lib.hid hw
  go_enter Try.func60, Try.ntmps60
  go_upto_region 1 with fail
  try simp only [Nat.add_assoc, Nat.reduceAdd, Nat.add_zero]
  rw [hw.out]
  clear hw
  have hs0 := hx.size
  have d1 := cell_exQ hx HC1.out
  have d2 := cell_exQ hx HC2.out
  replace HM := Lib.hid (HM.out _ hx)
  rw [Nat.zero_add] at HM
  have g1 : (0 : Int) ≤ (i : Int) := by omega
  have g2 : (i : Int) ≤ (j : Int) := by omega
  have g3 : (j : Int) ≤ (n : Int) := by omega
  have e1 : ((n : Int) - 1).tdiv 2 = (i : Int) := by rw [hi, Int.tdiv_eq_ediv_of_nonneg (by omega)]; omega
  have e2 : (n : Int).tdiv 2 = (j : Int) - 1 := by rw [hj, Int.tdiv_eq_ediv_of_nonneg (by omega)]; omega
  have g4 : ¬ n = i := by omega
  replace hi := Lib.hid hi
  replace hj := Lib.hid hj
  obtain ⟨cr0, cr1, cr2, cr3⟩ := bk4 Kr
  have hsz := hx.size
  go_wp2_with fail
  with_reducible refine (HM.out).mono ?_
  clear cr0 cr1 cr2 cr3
  rintro e x2 ⟨v, rfl, hv, hy⟩
  replace hx := hx.trans hy
  replace Kr := kE Kr hy
  clear hy
  obtain ⟨nv, av, qv, cv, bv, kv, dv, rfl, hv', hf', hg'⟩ := hv
  have Vv := Lib.hid hv'
  have Fv := Lib.hid (fun A hA => Nat.le_trans hsz (hf' A hA))
  have Gv := Lib.hid (fun A hA => Nat.le_trans hsz (hg' A hA))
  clear hv' hf' hg' hsz
  obtain ⟨cr0, cr1, cr2, cr3⟩ := bk4 Kr
  obtain ⟨g0, z0, g1, z1, g2, z2, g3, z3⟩ := bp4 Kr (.bool nv) (.slice av qv cv) (.bool false) (.slice bv kv dv)
  go_wp2_with fail
  clear g0 z0 g1 z1 g2 z2 g3 z3
  clear cr0 cr1 cr2 cr3
  replace Vv := (by first | exact rv4 Vv Kr (.bool nv) (.slice av qv cv) (.bool false) (.slice bv kv dv) rfl rfl rfl rfl | exact bv4 Vv Kr (.bool nv) (.slice av qv cv) (.bool false) (.slice bv kv dv) rfl rfl rfl rfl)
  replace hx := bx4 hx (w.heap.size) (.bool nv) (.slice av qv cv) (.bool false) (.slice bv kv dv) (by omega)
  replace Kr := bs4 Kr (.bool nv) (.slice av qv cv) (.bool false) (.slice bv kv dv)
  generalize ((((x2).setCell ⟨w.heap.size, 0, none⟩ (.bool nv)).setCell ⟨w.heap.size, 1, none⟩ (.slice av qv cv)).setCell ⟨w.heap.size, 2, none⟩ (.bool false)).setCell ⟨w.heap.size, 3, none⟩ (.slice bv kv dv) = x3 at *
  obtain ⟨cr0, cr1, cr2, cr3⟩ := bk4 Kr
  refine bodyPost_ret (v := .tuple #[.agg #[.bool nv, .slice av qv cv, .bool false, .slice bv kv dv], .int .i64 0]) (by simp [results, Try.results60, go_sem, cr0, cr1, cr2, cr3]) rfl ?_
  exact ⟨_, rfl, ⟨_, _, _, _, _, _, _, rfl, Vv.out, Fv.out, Gv.out⟩, hx⟩
set_option maxHeartbeats 4000000 in
theorem combine_Total_sum (c : CritA) (hc : c.In) (hr : rightC c = true) (a : Option Addr) (cap : Nat) (l : List Int) (w : World) (h : Ints w a cap l) (hl2 : l.length ≤ 256) (hh : c.how = 1) (hl : 0 < l.length) (hon : (bet c l).length = l.length) :
    Calls Try.prog 24 #[c.val, .slice a l.length cap] w (RatP (Rat.divInt ((srtC c l).sum * (l.length : Int)) (l.length : Int)) w) := by
  have hle := h.le
  have hmx := h.mx
  have hrr := rightC_iff.1 hr
  have HC := Lib.hid (combine_right c hc)
  rw [hr] at HC
  have HB := Lib.hid (fun wx => combine_better c a l.length cap wx)
  have HI := Lib.hid h
  have HSB := Lib.hid (fun w0 w h hw => sorted_of_better c hc hr a cap l (by omega) w0 w h hw)
  have HM := Lib.hid (fun x => mem_srtC (l := l) (x := x) hrr)
  rw [show (bet c l).mergeSort (fun x y => decide (x ≤ y)) = srtC c l from rfl] at HSB
  have HL := Lib.hid (srtC_len (c := c) (l := l))
  have tr1 := hrr.tr
  have tr2 := hrr.tm
  have ht0 : c.tr = 0 := (rightC_iff.1 hr).mn.resolve_left (by omega)
  obtain ⟨RR, hRR⟩ : ∃ RR, RR = Rat.divInt ((srtC c l).sum * (l.length : Int)) (l.length : Int) := ⟨_, rfl⟩
  rw [← hRR]
  replace hRR := Lib.hid hRR
  generalize srtC c l = S at *
  generalize (bet c l).length = bl at *
  obtain ⟨nm, lo, hi, st, how, tr, rv⟩ := c
  dsimp only [CritA.val, CritA.cells] at *

  subst hh
  subst ht0
  clear h hrr hr hc
  obtain ⟨x1, hw, hx, Kc, Kr, Kn⟩ := boxQ3 w #[.string nm, .int .i64 lo, .int .i64 hi, .int .i64 st, .int .i64 1, .int .i64 0, .bool rv] 48 #[.bool false, .slice none 0 0, .bool false, .slice none 0 0] 35 #[.int .i64 (l.length : Int)] 3
  replace hw := Lib.hid hw
  go_enter Try.func24, Try.ntmps24
  go_upto_region 2 with fail
  try simp only [Nat.add_assoc, Nat.reduceAdd, Nat.add_zero]
  rw [hw.out]
  clear hw
  have hs0 := hx.size
  have cc0 := Kc.out.cell (i := 0) (v := .string nm) rfl
  have cc1 := Kc.out.cell (i := 1) (v := .int .i64 lo) rfl
  have cc2 := Kc.out.cell (i := 2) (v := .int .i64 hi) rfl
  have cc3 := Kc.out.cell (i := 3) (v := .int .i64 st) rfl
  have cc4 := Kc.out.cell (i := 4) (v := .int .i64 1) rfl
  have cc5 := Kc.out.cell (i := 5) (v := .int .i64 0) rfl
  have cc6 := Kc.out.cell (i := 6) (v := .bool rv) rfl
  obtain ⟨cr0, cr1, cr2, cr3⟩ := bk4 Kr
  have cn0 := bk1 Kn
  go_wp2_with fail
  with_reducible refine (HC.out _).mono ?_
  clear cc0 cc1 cc2 cc3 cc4 cc5 cc6 cr0 cr1 cr2 cr3 cn0
  rintro e x2 ⟨rfl, hy⟩
  replace hx := hx.trans hy
  replace Kc := kE Kc hy
  replace Kr := kE Kr hy
  replace Kn := kE Kn hy
  clear hy
  have cc0 := Kc.out.cell (i := 0) (v := .string nm) rfl
  have cc1 := Kc.out.cell (i := 1) (v := .int .i64 lo) rfl
  have cc2 := Kc.out.cell (i := 2) (v := .int .i64 hi) rfl
  have cc3 := Kc.out.cell (i := 3) (v := .int .i64 st) rfl
  have cc4 := Kc.out.cell (i := 4) (v := .int .i64 1) rfl
  have cc5 := Kc.out.cell (i := 5) (v := .int .i64 0) rfl
  have cc6 := Kc.out.cell (i := 6) (v := .bool rv) rfl
  obtain ⟨cr0, cr1, cr2, cr3⟩ := bk4 Kr
  have cn0 := bk1 Kn
  go_wp2_with fail
  refine (HB.out _).mono ?_
  rintro e x3 ⟨rfl, hw3⟩
  have hy : Ext x2 x3 := by rw [hw3]; exact ((Ext.refl _).alloc' _).alloc' _
  have hI2 := HI.out.ext hx
  replace hw3 := Lib.hid hw3.symm
  clear cc0 cc1 cc2 cc3 cc4 cc5 cc6 cr0 cr1 cr2 cr3 cn0
  replace hx := hx.trans hy
  replace Kc := kE Kc hy
  replace Kr := kE Kr hy
  replace Kn := kE Kn hy
  clear hy
  have cc0 := Kc.out.cell (i := 0) (v := .string nm) rfl
  have cc1 := Kc.out.cell (i := 1) (v := .int .i64 lo) rfl
  have cc2 := Kc.out.cell (i := 2) (v := .int .i64 hi) rfl
  have cc3 := Kc.out.cell (i := 3) (v := .int .i64 st) rfl
  have cc4 := Kc.out.cell (i := 4) (v := .int .i64 1) rfl
  have cc5 := Kc.out.cell (i := 5) (v := .int .i64 0) rfl
  have cc6 := Kc.out.cell (i := 6) (v := .bool rv) rfl
  obtain ⟨cr0, cr1, cr2, cr3⟩ := bk4 Kr
  have cn0 := bk1 Kn
  go_wp2_with fail
  refine (HSB.out _ _ hI2 hw3.out).mono ?_
  rintro e x4 ⟨v, rfl, hv, hy⟩
  clear hw3 hI2 HB HI HSB
  clear cc0 cc1 cc2 cc3 cc4 cc5 cc6 cr0 cr1 cr2 cr3 cn0
  replace hx := hx.trans hy
  replace Kc := kE Kc hy
  replace Kr := kE Kr hy
  replace Kn := kE Kn hy
  clear hy
  obtain ⟨al, cl, rfl, hIl, hal⟩ := ints_of_owns hv HM.out
  have hle2 := hIl.le
  have hmx2 := hIl.mx
  have VL := Lib.hid hIl
  have HAL := Lib.hid hal
  clear hv hIl hal
  go_upto_region 7 with fail
  have hl := Ext.alloc x4 (.cells #[.slice al S.length cl] 27)
  have lcl : w.heap.size < x4.heap.size := Kc.out.lt
  have lrl : w.heap.size + 1 < x4.heap.size := Kr.out.lt
  have lnl : w.heap.size + 2 < x4.heap.size := Kn.out.lt
  have hpl : w.heap.size ≤ x4.heap.size := hx.size
  replace hx := hx.trans hl
  replace Kc := kE Kc hl
  replace Kr := kE Kr hl
  replace Kn := kE Kn hl
  replace VL := Lib.hid (VL.out.ext hl)
  have Kl := Lib.hid (Blk.new0 x4 #[.slice al S.length cl] 27)
  clear hl
  generalize x4.alloc (.cells #[.slice al S.length cl] 27) = x13 at *
  generalize x4.heap.size = pl at *
  have hSl := HL.out
  rw [hon] at hSl
  clear HL hon
  have t1 : ((l.length : Int) == 0) = false := beq_false_of_ne (by omega)
  have t2 : decide ((S.length : Int) < (l.length : Int)) = false := decide_eq_false (by omega)
  have t2n : ¬ S.length < l.length := by omega
  have t3n : ¬ l = [] := List.ne_nil_of_length_pos hl
  have t3 : decide ((l.length : Int) ≤ 0) = false := decide_eq_false (by omega)
  have HL0 := Lib.hid hl
  replace hSl := Lib.hid hSl
  have cc0 := Kc.out.cell (i := 0) (v := .string nm) rfl
  have cc1 := Kc.out.cell (i := 1) (v := .int .i64 lo) rfl
  have cc2 := Kc.out.cell (i := 2) (v := .int .i64 hi) rfl
  have cc3 := Kc.out.cell (i := 3) (v := .int .i64 st) rfl
  have cc4 := Kc.out.cell (i := 4) (v := .int .i64 1) rfl
  have cc5 := Kc.out.cell (i := 5) (v := .int .i64 0) rfl
  have cc6 := Kc.out.cell (i := 6) (v := .bool rv) rfl
  obtain ⟨cr0, cr1, cr2, cr3⟩ := bk4 Kr
  have cn0 := bk1 Kn
  have cl0 := bk1 Kl
  go_upto_region 9 with fail
  have HW := Lib.hid (fun W (h1 : Ints W al cl S) h2 h3 => total_way1 (w := W) (pl := pl) (pn := w.heap.size + 2) h2 h3 h1 (HAL.out (by rw [hSl.out]; exact HL0.out)) HM.out hSl.out HL0.out (by omega))
  have hRR' := hRR.out
  rw [← hRR'] at HW
  clear hRR'
  clear cc0 cc1 cc2 cc3 cc4 cc5 cc6 cr0 cr1 cr2 cr3 cn0 cl0
  obtain ⟨wA, wB, wC, eA, eB, eC, hy, HLK⟩ := ways_map (.func (.func 57) #[] #[.pointer (some ⟨pl, 0, none⟩), .pointer (some ⟨w.heap.size + 2, 0, none⟩)]) (.func (.func 59) #[] #[.pointer (some ⟨pl, 0, none⟩), .pointer (some ⟨w.heap.size, 0, none⟩), .pointer (some ⟨w.heap.size + 2, 0, none⟩)]) (.func (.func 60) #[] #[.pointer (some ⟨pl, 0, none⟩), .pointer (some ⟨w.heap.size + 2, 0, none⟩)]) (by simp) (by simp) (by simp) (by simp) (by simp) (by simp) x13
  replace hx := hx.trans hy
  replace Kc := kE Kc hy
  replace Kr := kE Kr hy
  replace Kn := kE Kn hy
  replace Kl := kE Kl hy
  replace VL := Lib.hid (VL.out.ext hy)
  replace HLK := Lib.hid (HLK wC (Ext.refl _))
  clear hy
  have hmf : ∀ (fn : Fn) (first cap : Array Value) (w : World), (Instr.makeFunc fn first cap).run Try.prog w = .ok (.func fn first cap) w := fun _ _ _ _ => rfl
  have hmm := @run_makeMap Try.prog
  have EA := Lib.hid eA
  have EB := Lib.hid eB
  have EC := Lib.hid eC
  clear eA eB eC
  go_upto_region 10 with (first
    | (refine wpList_insert_run rfl (t := 87) (m := .tmp 38) (x := .const (.int .i64 1)) (v := .tmp 39) rfl rfl rfl rfl EA.out ?_)
    | (refine wpList_insert_run rfl (t := 87) (m := .tmp 38) (x := .const (.int .i64 2)) (v := .tmp 40) rfl rfl rfl rfl EB.out ?_)
    | (refine wpList_insert_run rfl (t := 87) (m := .tmp 38) (x := .const (.int .i64 3)) (v := .tmp 41) rfl rfl rfl rfl EC.out ?_))
  clear hmm hmf EA EB EC
  obtain ⟨lk1, lk2, lk3⟩ := HLK.out
  clear HLK
  have cc0 := Kc.out.cell (i := 0) (v := .string nm) rfl
  have cc1 := Kc.out.cell (i := 1) (v := .int .i64 lo) rfl
  have cc2 := Kc.out.cell (i := 2) (v := .int .i64 hi) rfl
  have cc3 := Kc.out.cell (i := 3) (v := .int .i64 st) rfl
  have cc4 := Kc.out.cell (i := 4) (v := .int .i64 1) rfl
  have cc5 := Kc.out.cell (i := 5) (v := .int .i64 0) rfl
  have cc6 := Kc.out.cell (i := 6) (v := .bool rv) rfl
  obtain ⟨cr0, cr1, cr2, cr3⟩ := bk4 Kr
  have cn0 := bk1 Kn
  have cl0 := bk1 Kl
  have hsz := hx.size
  go_wp2_with fail
  with_reducible refine (HW.out wC VL.out (Kl.out.cell (i := 0) rfl) (Kn.out.cell (i := 0) rfl)).mono ?_
  clear cc0 cc1 cc2 cc3 cc4 cc5 cc6 cr0 cr1 cr2 cr3 cn0 cl0
  rintro e x14 ⟨v, rfl, hv, hy⟩
  replace hx := hx.trans hy
  replace Kc := kE Kc hy
  replace Kr := kE Kr hy
  replace Kn := kE Kn hy
  replace Kl := kE Kl hy
  replace VL := Lib.hid (VL.out.ext hy)
  clear hy
  obtain ⟨nv, av, qv, cv, bv, kv, dv, rfl, hv', hf', hg'⟩ := hv
  have Vv := Lib.hid hv'
  have Fv := Lib.hid (fun A hA => Nat.le_trans hsz (hf' A hA))
  have Gv := Lib.hid (fun A hA => Nat.le_trans hsz (hg' A hA))
  clear hv' hf' hg' hsz
  clear VL
  have cc0 := Kc.out.cell (i := 0) (v := .string nm) rfl
  have cc1 := Kc.out.cell (i := 1) (v := .int .i64 lo) rfl
  have cc2 := Kc.out.cell (i := 2) (v := .int .i64 hi) rfl
  have cc3 := Kc.out.cell (i := 3) (v := .int .i64 st) rfl
  have cc4 := Kc.out.cell (i := 4) (v := .int .i64 1) rfl
  have cc5 := Kc.out.cell (i := 5) (v := .int .i64 0) rfl
  have cc6 := Kc.out.cell (i := 6) (v := .bool rv) rfl
  obtain ⟨cr0, cr1, cr2, cr3⟩ := bk4 Kr
  have cn0 := bk1 Kn
  have cl0 := bk1 Kl
  obtain ⟨g0, z0, g1, z1, g2, z2, g3, z3⟩ := bp4 Kr (.bool nv) (.slice av qv cv) (.bool false) (.slice bv kv dv)
  go_wp2_with fail
  clear g0 z0 g1 z1 g2 z2 g3 z3
  clear cc0 cc1 cc2 cc3 cc4 cc5 cc6 cr0 cr1 cr2 cr3 cn0 cl0
  replace Vv := (by first | exact rv4 Vv Kr (.bool nv) (.slice av qv cv) (.bool false) (.slice bv kv dv) rfl rfl rfl rfl | exact bv4 Vv Kr (.bool nv) (.slice av qv cv) (.bool false) (.slice bv kv dv) rfl rfl rfl rfl)
  replace hx := bx4 hx (w.heap.size + 1) (.bool nv) (.slice av qv cv) (.bool false) (.slice bv kv dv) (by omega)
  replace Kc := bo4 Kc (w.heap.size + 1) (.bool nv) (.slice av qv cv) (.bool false) (.slice bv kv dv) (by omega)
  replace Kr := bs4 Kr (.bool nv) (.slice av qv cv) (.bool false) (.slice bv kv dv)
  replace Kn := bo4 Kn (w.heap.size + 1) (.bool nv) (.slice av qv cv) (.bool false) (.slice bv kv dv) (by omega)
  replace Kl := bo4 Kl (w.heap.size + 1) (.bool nv) (.slice av qv cv) (.bool false) (.slice bv kv dv) (by omega)
  generalize ((((x14).setCell ⟨w.heap.size + 1, 0, none⟩ (.bool nv)).setCell ⟨w.heap.size + 1, 1, none⟩ (.slice av qv cv)).setCell ⟨w.heap.size + 1, 2, none⟩ (.bool false)).setCell ⟨w.heap.size + 1, 3, none⟩ (.slice bv kv dv) = x15 at *
  obtain ⟨cr0, cr1, cr2, cr3⟩ := bk4 Kr
  refine bodyPost_ret (v := .tuple #[.agg #[.bool nv, .slice av qv cv, .bool false, .slice bv kv dv], .int .i64 0]) (by simp [results, Try.results24, go_sem, cr0, cr1, cr2, cr3]) rfl ?_
  exact ⟨_, rfl, ⟨_, _, _, _, _, _, _, rfl, Vv.out, Fv.out, Gv.out⟩, hx⟩
set_option maxHeartbeats 4000000 in
theorem combine_Total_mean (c : CritA) (hc : c.In) (hr : rightC c = true) (a : Option Addr) (cap : Nat) (l : List Int) (w : World) (h : Ints w a cap l) (hl2 : l.length ≤ 256) (hh : c.how = 2) (hl : 2 * c.tr < (l.length : Int)) (hon : (bet c l).length = l.length) :
    Calls Try.prog 24 #[c.val, .slice a l.length cap] w (RatP (Rat.divInt ((((srtC c l).take (l.length - c.tr.toNat)).drop c.tr.toNat).sum * 1) ((l.length - c.tr.toNat - c.tr.toNat : Nat) : Int)) w) := by
  have hle := h.le
  have hmx := h.mx
  have hrr := rightC_iff.1 hr
  have HC := Lib.hid (combine_right c hc)
  rw [hr] at HC
  have HB := Lib.hid (fun wx => combine_better c a l.length cap wx)
  have HI := Lib.hid h
  have HSB := Lib.hid (fun w0 w h hw => sorted_of_better c hc hr a cap l (by omega) w0 w h hw)
  have HM := Lib.hid (fun x => mem_srtC (l := l) (x := x) hrr)
  rw [show (bet c l).mergeSort (fun x y => decide (x ≤ y)) = srtC c l from rfl] at HSB
  have HL := Lib.hid (srtC_len (c := c) (l := l))
  have tr1 := hrr.tr
  have tr2 := hrr.tm
  obtain ⟨RR, hRR⟩ : ∃ RR, RR = Rat.divInt ((((srtC c l).take (l.length - c.tr.toNat)).drop c.tr.toNat).sum * 1) ((l.length - c.tr.toNat - c.tr.toNat : Nat) : Int) := ⟨_, rfl⟩
  rw [← hRR]
  replace hRR := Lib.hid hRR
  obtain ⟨tn, htn⟩ : ∃ tn : Nat, c.tr = (tn : Int) := ⟨c.tr.toNat, by omega⟩
  have htn2 : c.tr.toNat = tn := by omega
  rw [htn2] at hRR
  clear htn2
  generalize srtC c l = S at *
  generalize (bet c l).length = bl at *
  obtain ⟨nm, lo, hi, st, how, tr, rv⟩ := c
  dsimp only [CritA.val, CritA.cells] at *

  subst hh
  subst htn
  clear h hrr hr hc
  obtain ⟨x1, hw, hx, Kc, Kr, Kn⟩ := boxQ3 w #[.string nm, .int .i64 lo, .int .i64 hi, .int .i64 st, .int .i64 2, .int .i64 (tn : Int), .bool rv] 48 #[.bool false, .slice none 0 0, .bool false, .slice none 0 0] 35 #[.int .i64 (l.length : Int)] 3
  replace hw := Lib.hid hw
  go_enter Try.func24, Try.ntmps24
  go_upto_region 2 with fail
  try simp only [Nat.add_assoc, Nat.reduceAdd, Nat.add_zero]
  rw [hw.out]
  clear hw
  have hs0 := hx.size
  have cc0 := Kc.out.cell (i := 0) (v := .string nm) rfl
  have cc1 := Kc.out.cell (i := 1) (v := .int .i64 lo) rfl
  have cc2 := Kc.out.cell (i := 2) (v := .int .i64 hi) rfl
  have cc3 := Kc.out.cell (i := 3) (v := .int .i64 st) rfl
  have cc4 := Kc.out.cell (i := 4) (v := .int .i64 2) rfl
  have cc5 := Kc.out.cell (i := 5) (v := .int .i64 (tn : Int)) rfl
  have cc6 := Kc.out.cell (i := 6) (v := .bool rv) rfl
  obtain ⟨cr0, cr1, cr2, cr3⟩ := bk4 Kr
  have cn0 := bk1 Kn
  go_wp2_with fail
  with_reducible refine (HC.out _).mono ?_
  clear cc0 cc1 cc2 cc3 cc4 cc5 cc6 cr0 cr1 cr2 cr3 cn0
  rintro e x2 ⟨rfl, hy⟩
  replace hx := hx.trans hy
  replace Kc := kE Kc hy
  replace Kr := kE Kr hy
  replace Kn := kE Kn hy
  clear hy
  have cc0 := Kc.out.cell (i := 0) (v := .string nm) rfl
  have cc1 := Kc.out.cell (i := 1) (v := .int .i64 lo) rfl
  have cc2 := Kc.out.cell (i := 2) (v := .int .i64 hi) rfl
  have cc3 := Kc.out.cell (i := 3) (v := .int .i64 st) rfl
  have cc4 := Kc.out.cell (i := 4) (v := .int .i64 2) rfl
  have cc5 := Kc.out.cell (i := 5) (v := .int .i64 (tn : Int)) rfl
  have cc6 := Kc.out.cell (i := 6) (v := .bool rv) rfl
  obtain ⟨cr0, cr1, cr2, cr3⟩ := bk4 Kr
  have cn0 := bk1 Kn
  go_wp2_with fail
  refine (HB.out _).mono ?_
  rintro e x3 ⟨rfl, hw3⟩
  have hy : Ext x2 x3 := by rw [hw3]; exact ((Ext.refl _).alloc' _).alloc' _
  have hI2 := HI.out.ext hx
  replace hw3 := Lib.hid hw3.symm
  clear cc0 cc1 cc2 cc3 cc4 cc5 cc6 cr0 cr1 cr2 cr3 cn0
  replace hx := hx.trans hy
  replace Kc := kE Kc hy
  replace Kr := kE Kr hy
  replace Kn := kE Kn hy
  clear hy
  have cc0 := Kc.out.cell (i := 0) (v := .string nm) rfl
  have cc1 := Kc.out.cell (i := 1) (v := .int .i64 lo) rfl
  have cc2 := Kc.out.cell (i := 2) (v := .int .i64 hi) rfl
  have cc3 := Kc.out.cell (i := 3) (v := .int .i64 st) rfl
  have cc4 := Kc.out.cell (i := 4) (v := .int .i64 2) rfl
  have cc5 := Kc.out.cell (i := 5) (v := .int .i64 (tn : Int)) rfl
  have cc6 := Kc.out.cell (i := 6) (v := .bool rv) rfl
  obtain ⟨cr0, cr1, cr2, cr3⟩ := bk4 Kr
  have cn0 := bk1 Kn
  go_wp2_with fail
  refine (HSB.out _ _ hI2 hw3.out).mono ?_
  rintro e x4 ⟨v, rfl, hv, hy⟩
  clear hw3 hI2 HB HI HSB
  clear cc0 cc1 cc2 cc3 cc4 cc5 cc6 cr0 cr1 cr2 cr3 cn0
  replace hx := hx.trans hy
  replace Kc := kE Kc hy
  replace Kr := kE Kr hy
  replace Kn := kE Kn hy
  clear hy
  obtain ⟨al, cl, rfl, hIl, hal⟩ := ints_of_owns hv HM.out
  have hle2 := hIl.le
  have hmx2 := hIl.mx
  have VL := Lib.hid hIl
  have HAL := Lib.hid hal
  clear hv hIl hal
  go_upto_region 7 with fail
  have hl := Ext.alloc x4 (.cells #[.slice al S.length cl] 27)
  have lcl : w.heap.size < x4.heap.size := Kc.out.lt
  have lrl : w.heap.size + 1 < x4.heap.size := Kr.out.lt
  have lnl : w.heap.size + 2 < x4.heap.size := Kn.out.lt
  have hpl : w.heap.size ≤ x4.heap.size := hx.size
  replace hx := hx.trans hl
  replace Kc := kE Kc hl
  replace Kr := kE Kr hl
  replace Kn := kE Kn hl
  replace VL := Lib.hid (VL.out.ext hl)
  have Kl := Lib.hid (Blk.new0 x4 #[.slice al S.length cl] 27)
  clear hl
  generalize x4.alloc (.cells #[.slice al S.length cl] 27) = x13 at *
  generalize x4.heap.size = pl at *
  have hSl := HL.out
  rw [hon] at hSl
  clear HL hon
  have hl0 : 0 < l.length := by omega
  have t1 : ((l.length : Int) == 0) = false := beq_false_of_ne (by omega)
  have t2 : decide ((S.length : Int) < (l.length : Int)) = false := decide_eq_false (by omega)
  have t2n : ¬ S.length < l.length := by omega
  have t3 : decide ((l.length : Int) ≤ 2 * (tn : Int)) = false := decide_eq_false (by omega)
  have hl3 : 2 * tn < l.length := by omega
  have HLT := Lib.hid hl3
  have HL0 := Lib.hid hl0
  replace hSl := Lib.hid hSl
  have cc0 := Kc.out.cell (i := 0) (v := .string nm) rfl
  have cc1 := Kc.out.cell (i := 1) (v := .int .i64 lo) rfl
  have cc2 := Kc.out.cell (i := 2) (v := .int .i64 hi) rfl
  have cc3 := Kc.out.cell (i := 3) (v := .int .i64 st) rfl
  have cc4 := Kc.out.cell (i := 4) (v := .int .i64 2) rfl
  have cc5 := Kc.out.cell (i := 5) (v := .int .i64 (tn : Int)) rfl
  have cc6 := Kc.out.cell (i := 6) (v := .bool rv) rfl
  obtain ⟨cr0, cr1, cr2, cr3⟩ := bk4 Kr
  have cn0 := bk1 Kn
  have cl0 := bk1 Kl
  go_upto_region 9 with fail
  have HW := Lib.hid (fun W (h1 : Ints W al cl S) h2 h3 h4 => total_way2 (w := W) (pl := pl) (pn := w.heap.size + 2) (pc := w.heap.size) (tr := tn) h2 h3 h1 (HAL.out (by rw [hSl.out]; exact HL0.out)) HM.out hSl.out HL0.out (by omega) h4 HLT.out)
  have hRR' := hRR.out
  rw [← hRR'] at HW
  clear hRR'
  clear cc0 cc1 cc2 cc3 cc4 cc5 cc6 cr0 cr1 cr2 cr3 cn0 cl0
  obtain ⟨wA, wB, wC, eA, eB, eC, hy, HLK⟩ := ways_map (.func (.func 57) #[] #[.pointer (some ⟨pl, 0, none⟩), .pointer (some ⟨w.heap.size + 2, 0, none⟩)]) (.func (.func 59) #[] #[.pointer (some ⟨pl, 0, none⟩), .pointer (some ⟨w.heap.size, 0, none⟩), .pointer (some ⟨w.heap.size + 2, 0, none⟩)]) (.func (.func 60) #[] #[.pointer (some ⟨pl, 0, none⟩), .pointer (some ⟨w.heap.size + 2, 0, none⟩)]) (by simp) (by simp) (by simp) (by simp) (by simp) (by simp) x13
  replace hx := hx.trans hy
  replace Kc := kE Kc hy
  replace Kr := kE Kr hy
  replace Kn := kE Kn hy
  replace Kl := kE Kl hy
  replace VL := Lib.hid (VL.out.ext hy)
  replace HLK := Lib.hid (HLK wC (Ext.refl _))
  clear hy
  have hmf : ∀ (fn : Fn) (first cap : Array Value) (w : World), (Instr.makeFunc fn first cap).run Try.prog w = .ok (.func fn first cap) w := fun _ _ _ _ => rfl
  have hmm := @run_makeMap Try.prog
  have EA := Lib.hid eA
  have EB := Lib.hid eB
  have EC := Lib.hid eC
  clear eA eB eC
  go_upto_region 10 with (first
    | (refine wpList_insert_run rfl (t := 87) (m := .tmp 38) (x := .const (.int .i64 1)) (v := .tmp 39) rfl rfl rfl rfl EA.out ?_)
    | (refine wpList_insert_run rfl (t := 87) (m := .tmp 38) (x := .const (.int .i64 2)) (v := .tmp 40) rfl rfl rfl rfl EB.out ?_)
    | (refine wpList_insert_run rfl (t := 87) (m := .tmp 38) (x := .const (.int .i64 3)) (v := .tmp 41) rfl rfl rfl rfl EC.out ?_))
  clear hmm hmf EA EB EC
  obtain ⟨lk1, lk2, lk3⟩ := HLK.out
  clear HLK
  have cc0 := Kc.out.cell (i := 0) (v := .string nm) rfl
  have cc1 := Kc.out.cell (i := 1) (v := .int .i64 lo) rfl
  have cc2 := Kc.out.cell (i := 2) (v := .int .i64 hi) rfl
  have cc3 := Kc.out.cell (i := 3) (v := .int .i64 st) rfl
  have cc4 := Kc.out.cell (i := 4) (v := .int .i64 2) rfl
  have cc5 := Kc.out.cell (i := 5) (v := .int .i64 (tn : Int)) rfl
  have cc6 := Kc.out.cell (i := 6) (v := .bool rv) rfl
  obtain ⟨cr0, cr1, cr2, cr3⟩ := bk4 Kr
  have cn0 := bk1 Kn
  have cl0 := bk1 Kl
  have hsz := hx.size
  go_wp2_with fail
  with_reducible refine (HW.out wC VL.out (Kl.out.cell (i := 0) rfl) (Kn.out.cell (i := 0) rfl) (Kc.out.cell (i := 5) rfl)).mono ?_
  clear cc0 cc1 cc2 cc3 cc4 cc5 cc6 cr0 cr1 cr2 cr3 cn0 cl0
  rintro e x14 ⟨v, rfl, hv, hy⟩
  replace hx := hx.trans hy
  replace Kc := kE Kc hy
  replace Kr := kE Kr hy
  replace Kn := kE Kn hy
  replace Kl := kE Kl hy
  replace VL := Lib.hid (VL.out.ext hy)
  clear hy
  obtain ⟨nv, av, qv, cv, bv, kv, dv, rfl, hv', hf', hg'⟩ := hv
  have Vv := Lib.hid hv'
  have Fv := Lib.hid (fun A hA => Nat.le_trans hsz (hf' A hA))
  have Gv := Lib.hid (fun A hA => Nat.le_trans hsz (hg' A hA))
  clear hv' hf' hg' hsz
  clear VL
  have cc0 := Kc.out.cell (i := 0) (v := .string nm) rfl
  have cc1 := Kc.out.cell (i := 1) (v := .int .i64 lo) rfl
  have cc2 := Kc.out.cell (i := 2) (v := .int .i64 hi) rfl
  have cc3 := Kc.out.cell (i := 3) (v := .int .i64 st) rfl
  have cc4 := Kc.out.cell (i := 4) (v := .int .i64 2) rfl
  have cc5 := Kc.out.cell (i := 5) (v := .int .i64 (tn : Int)) rfl
  have cc6 := Kc.out.cell (i := 6) (v := .bool rv) rfl
  obtain ⟨cr0, cr1, cr2, cr3⟩ := bk4 Kr
  have cn0 := bk1 Kn
  have cl0 := bk1 Kl
  obtain ⟨g0, z0, g1, z1, g2, z2, g3, z3⟩ := bp4 Kr (.bool nv) (.slice av qv cv) (.bool false) (.slice bv kv dv)
  go_wp2_with fail
  clear g0 z0 g1 z1 g2 z2 g3 z3
  clear cc0 cc1 cc2 cc3 cc4 cc5 cc6 cr0 cr1 cr2 cr3 cn0 cl0
  replace Vv := (by first | exact rv4 Vv Kr (.bool nv) (.slice av qv cv) (.bool false) (.slice bv kv dv) rfl rfl rfl rfl | exact bv4 Vv Kr (.bool nv) (.slice av qv cv) (.bool false) (.slice bv kv dv) rfl rfl rfl rfl)
  replace hx := bx4 hx (w.heap.size + 1) (.bool nv) (.slice av qv cv) (.bool false) (.slice bv kv dv) (by omega)
  replace Kc := bo4 Kc (w.heap.size + 1) (.bool nv) (.slice av qv cv) (.bool false) (.slice bv kv dv) (by omega)
  replace Kr := bs4 Kr (.bool nv) (.slice av qv cv) (.bool false) (.slice bv kv dv)
  replace Kn := bo4 Kn (w.heap.size + 1) (.bool nv) (.slice av qv cv) (.bool false) (.slice bv kv dv) (by omega)
  replace Kl := bo4 Kl (w.heap.size + 1) (.bool nv) (.slice av qv cv) (.bool false) (.slice bv kv dv) (by omega)
  generalize ((((x14).setCell ⟨w.heap.size + 1, 0, none⟩ (.bool nv)).setCell ⟨w.heap.size + 1, 1, none⟩ (.slice av qv cv)).setCell ⟨w.heap.size + 1, 2, none⟩ (.bool false)).setCell ⟨w.heap.size + 1, 3, none⟩ (.slice bv kv dv) = x15 at *
  obtain ⟨cr0, cr1, cr2, cr3⟩ := bk4 Kr
  refine bodyPost_ret (v := .tuple #[.agg #[.bool nv, .slice av qv cv, .bool false, .slice bv kv dv], .int .i64 0]) (by simp [results, Try.results24, go_sem, cr0, cr1, cr2, cr3]) rfl ?_
  exact ⟨_, rfl, ⟨_, _, _, _, _, _, _, rfl, Vv.out, Fv.out, Gv.out⟩, hx⟩
set_option maxHeartbeats 4000000 in
theorem combine_Total_median (c : CritA) (hc : c.In) (hr : rightC c = true) (a : Option Addr) (cap : Nat) (l : List Int) (w : World) (h : Ints w a cap l) (hl2 : l.length ≤ 256) (hh : c.how = 3) (hl : 0 < l.length) (hon : (bet c l).length = l.length) :
    Calls Try.prog 24 #[c.val, .slice a l.length cap] w (RatP (Rat.divInt ((((srtC c l).take (l.length / 2 + 1)).drop ((l.length - 1) / 2)).sum * 1) ((l.length / 2 + 1 - (l.length - 1) / 2 : Nat) : Int)) w) := by
  have hle := h.le
  have hmx := h.mx
  have hrr := rightC_iff.1 hr
  have HC := Lib.hid (combine_right c hc)
  rw [hr] at HC
  have HB := Lib.hid (fun wx => combine_better c a l.length cap wx)
  have HI := Lib.hid h
  have HSB := Lib.hid (fun w0 w h hw => sorted_of_better c hc hr a cap l (by omega) w0 w h hw)
  have HM := Lib.hid (fun x => mem_srtC (l := l) (x := x) hrr)
  rw [show (bet c l).mergeSort (fun x y => decide (x ≤ y)) = srtC c l from rfl] at HSB
  have HL := Lib.hid (srtC_len (c := c) (l := l))
  have tr1 := hrr.tr
  have tr2 := hrr.tm
  have ht0 : c.tr = 0 := (rightC_iff.1 hr).mn.resolve_left (by omega)
  obtain ⟨RR, hRR⟩ : ∃ RR, RR = Rat.divInt ((((srtC c l).take (l.length / 2 + 1)).drop ((l.length - 1) / 2)).sum * 1) ((l.length / 2 + 1 - (l.length - 1) / 2 : Nat) : Int) := ⟨_, rfl⟩
  rw [← hRR]
  replace hRR := Lib.hid hRR
  generalize srtC c l = S at *
  generalize (bet c l).length = bl at *
  obtain ⟨nm, lo, hi, st, how, tr, rv⟩ := c
  dsimp only [CritA.val, CritA.cells] at *

  subst hh
  subst ht0
  clear h hrr hr hc
  obtain ⟨x1, hw, hx, Kc, Kr, Kn⟩ := boxQ3 w #[.string nm, .int .i64 lo, .int .i64 hi, .int .i64 st, .int .i64 3, .int .i64 0, .bool rv] 48 #[.bool false, .slice none 0 0, .bool false, .slice none 0 0] 35 #[.int .i64 (l.length : Int)] 3
  replace hw := Lib.hid hw
  go_enter Try.func24, Try.ntmps24
  go_upto_region 2 with fail
  try simp only [Nat.add_assoc, Nat.reduceAdd, Nat.add_zero]
  rw [hw.out]
  clear hw
  have hs0 := hx.size
  have cc0 := Kc.out.cell (i := 0) (v := .string nm) rfl
  have cc1 := Kc.out.cell (i := 1) (v := .int .i64 lo) rfl
  have cc2 := Kc.out.cell (i := 2) (v := .int .i64 hi) rfl
  have cc3 := Kc.out.cell (i := 3) (v := .int .i64 st) rfl
  have cc4 := Kc.out.cell (i := 4) (v := .int .i64 3) rfl
  have cc5 := Kc.out.cell (i := 5) (v := .int .i64 0) rfl
  have cc6 := Kc.out.cell (i := 6) (v := .bool rv) rfl
  obtain ⟨cr0, cr1, cr2, cr3⟩ := bk4 Kr
  have cn0 := bk1 Kn
  go_wp2_with fail
  with_reducible refine (HC.out _).mono ?_
  clear cc0 cc1 cc2 cc3 cc4 cc5 cc6 cr0 cr1 cr2 cr3 cn0
  rintro e x2 ⟨rfl, hy⟩
  replace hx := hx.trans hy
  replace Kc := kE Kc hy
  replace Kr := kE Kr hy
  replace Kn := kE Kn hy
  clear hy
  have cc0 := Kc.out.cell (i := 0) (v := .string nm) rfl
  have cc1 := Kc.out.cell (i := 1) (v := .int .i64 lo) rfl
  have cc2 := Kc.out.cell (i := 2) (v := .int .i64 hi) rfl
  have cc3 := Kc.out.cell (i := 3) (v := .int .i64 st) rfl
  have cc4 := Kc.out.cell (i := 4) (v := .int .i64 3) rfl
  have cc5 := Kc.out.cell (i := 5) (v := .int .i64 0) rfl
  have cc6 := Kc.out.cell (i := 6) (v := .bool rv) rfl
  obtain ⟨cr0, cr1, cr2, cr3⟩ := bk4 Kr
  have cn0 := bk1 Kn
  go_wp2_with fail
  refine (HB.out _).mono ?_
  rintro e x3 ⟨rfl, hw3⟩
  have hy : Ext x2 x3 := by rw [hw3]; exact ((Ext.refl _).alloc' _).alloc' _
  have hI2 := HI.out.ext hx
  replace hw3 := Lib.hid hw3.symm
  clear cc0 cc1 cc2 cc3 cc4 cc5 cc6 cr0 cr1 cr2 cr3 cn0
  replace hx := hx.trans hy
  replace Kc := kE Kc hy
  replace Kr := kE Kr hy
  replace Kn := kE Kn hy
  clear hy
  have cc0 := Kc.out.cell (i := 0) (v := .string nm) rfl
  have cc1 := Kc.out.cell (i := 1) (v := .int .i64 lo) rfl
  have cc2 := Kc.out.cell (i := 2) (v := .int .i64 hi) rfl
  have cc3 := Kc.out.cell (i := 3) (v := .int .i64 st) rfl
  have cc4 := Kc.out.cell (i := 4) (v := .int .i64 3) rfl
  have cc5 := Kc.out.cell (i := 5) (v := .int .i64 0) rfl
  have cc6 := Kc.out.cell (i := 6) (v := .bool rv) rfl
  obtain ⟨cr0, cr1, cr2, cr3⟩ := bk4 Kr
  have cn0 := bk1 Kn
  go_wp2_with fail
  refine (HSB.out _ _ hI2 hw3.out).mono ?_
  rintro e x4 ⟨v, rfl, hv, hy⟩
  clear hw3 hI2 HB HI HSB
  clear cc0 cc1 cc2 cc3 cc4 cc5 cc6 cr0 cr1 cr2 cr3 cn0
  replace hx := hx.trans hy
  replace Kc := kE Kc hy
  replace Kr := kE Kr hy
  replace Kn := kE Kn hy
  clear hy
  obtain ⟨al, cl, rfl, hIl, hal⟩ := ints_of_owns hv HM.out
  have hle2 := hIl.le
  have hmx2 := hIl.mx
  have VL := Lib.hid hIl
  have HAL := Lib.hid hal
  clear hv hIl hal
  go_upto_region 7 with fail
  have hl := Ext.alloc x4 (.cells #[.slice al S.length cl] 27)
  have lcl : w.heap.size < x4.heap.size := Kc.out.lt
  have lrl : w.heap.size + 1 < x4.heap.size := Kr.out.lt
  have lnl : w.heap.size + 2 < x4.heap.size := Kn.out.lt
  have hpl : w.heap.size ≤ x4.heap.size := hx.size
  replace hx := hx.trans hl
  replace Kc := kE Kc hl
  replace Kr := kE Kr hl
  replace Kn := kE Kn hl
  replace VL := Lib.hid (VL.out.ext hl)
  have Kl := Lib.hid (Blk.new0 x4 #[.slice al S.length cl] 27)
  clear hl
  generalize x4.alloc (.cells #[.slice al S.length cl] 27) = x13 at *
  generalize x4.heap.size = pl at *
  have hSl := HL.out
  rw [hon] at hSl
  clear HL hon
  have t1 : ((l.length : Int) == 0) = false := beq_false_of_ne (by omega)
  have t2 : decide ((S.length : Int) < (l.length : Int)) = false := decide_eq_false (by omega)
  have t2n : ¬ S.length < l.length := by omega
  have t3n : ¬ l = [] := List.ne_nil_of_length_pos hl
  have t3 : decide ((l.length : Int) ≤ 0) = false := decide_eq_false (by omega)
  have HL0 := Lib.hid hl
  replace hSl := Lib.hid hSl
  have cc0 := Kc.out.cell (i := 0) (v := .string nm) rfl
  have cc1 := Kc.out.cell (i := 1) (v := .int .i64 lo) rfl
  have cc2 := Kc.out.cell (i := 2) (v := .int .i64 hi) rfl
  have cc3 := Kc.out.cell (i := 3) (v := .int .i64 st) rfl
  have cc4 := Kc.out.cell (i := 4) (v := .int .i64 3) rfl
  have cc5 := Kc.out.cell (i := 5) (v := .int .i64 0) rfl
  have cc6 := Kc.out.cell (i := 6) (v := .bool rv) rfl
  obtain ⟨cr0, cr1, cr2, cr3⟩ := bk4 Kr
  have cn0 := bk1 Kn
  have cl0 := bk1 Kl
  go_upto_region 9 with fail
  have HW := Lib.hid (fun W (h1 : Ints W al cl S) h2 h3 => total_way3 (w := W) (pl := pl) (pn := w.heap.size + 2) h2 h3 h1 (HAL.out (by rw [hSl.out]; exact HL0.out)) HM.out hSl.out HL0.out (by omega))
  have hRR' := hRR.out
  rw [← hRR'] at HW
  clear hRR'
  clear cc0 cc1 cc2 cc3 cc4 cc5 cc6 cr0 cr1 cr2 cr3 cn0 cl0
  obtain ⟨wA, wB, wC, eA, eB, eC, hy, HLK⟩ := ways_map (.func (.func 57) #[] #[.pointer (some ⟨pl, 0, none⟩), .pointer (some ⟨w.heap.size + 2, 0, none⟩)]) (.func (.func 59) #[] #[.pointer (some ⟨pl, 0, none⟩), .pointer (some ⟨w.heap.size, 0, none⟩), .pointer (some ⟨w.heap.size + 2, 0, none⟩)]) (.func (.func 60) #[] #[.pointer (some ⟨pl, 0, none⟩), .pointer (some ⟨w.heap.size + 2, 0, none⟩)]) (by simp) (by simp) (by simp) (by simp) (by simp) (by simp) x13
  replace hx := hx.trans hy
  replace Kc := kE Kc hy
  replace Kr := kE Kr hy
  replace Kn := kE Kn hy
  replace Kl := kE Kl hy
  replace VL := Lib.hid (VL.out.ext hy)
  replace HLK := Lib.hid (HLK wC (Ext.refl _))
  clear hy
  have hmf : ∀ (fn : Fn) (first cap : Array Value) (w : World), (Instr.makeFunc fn first cap).run Try.prog w = .ok (.func fn first cap) w := fun _ _ _ _ => rfl
  have hmm := @run_makeMap Try.prog
  have EA := Lib.hid eA
  have EB := Lib.hid eB
  have EC := Lib.hid eC
  clear eA eB eC
  go_upto_region 10 with (first
    | (refine wpList_insert_run rfl (t := 87) (m := .tmp 38) (x := .const (.int .i64 1)) (v := .tmp 39) rfl rfl rfl rfl EA.out ?_)
    | (refine wpList_insert_run rfl (t := 87) (m := .tmp 38) (x := .const (.int .i64 2)) (v := .tmp 40) rfl rfl rfl rfl EB.out ?_)
    | (refine wpList_insert_run rfl (t := 87) (m := .tmp 38) (x := .const (.int .i64 3)) (v := .tmp 41) rfl rfl rfl rfl EC.out ?_))
  clear hmm hmf EA EB EC
  obtain ⟨lk1, lk2, lk3⟩ := HLK.out
  clear HLK
  have cc0 := Kc.out.cell (i := 0) (v := .string nm) rfl
  have cc1 := Kc.out.cell (i := 1) (v := .int .i64 lo) rfl
  have cc2 := Kc.out.cell (i := 2) (v := .int .i64 hi) rfl
  have cc3 := Kc.out.cell (i := 3) (v := .int .i64 st) rfl
  have cc4 := Kc.out.cell (i := 4) (v := .int .i64 3) rfl
  have cc5 := Kc.out.cell (i := 5) (v := .int .i64 0) rfl
  have cc6 := Kc.out.cell (i := 6) (v := .bool rv) rfl
  obtain ⟨cr0, cr1, cr2, cr3⟩ := bk4 Kr
  have cn0 := bk1 Kn
  have cl0 := bk1 Kl
  have hsz := hx.size
  go_wp2_with fail
  with_reducible refine (HW.out wC VL.out (Kl.out.cell (i := 0) rfl) (Kn.out.cell (i := 0) rfl)).mono ?_
  clear cc0 cc1 cc2 cc3 cc4 cc5 cc6 cr0 cr1 cr2 cr3 cn0 cl0
  rintro e x14 ⟨v, rfl, hv, hy⟩
  replace hx := hx.trans hy
  replace Kc := kE Kc hy
  replace Kr := kE Kr hy
  replace Kn := kE Kn hy
  replace Kl := kE Kl hy
  replace VL := Lib.hid (VL.out.ext hy)
  clear hy
  obtain ⟨nv, av, qv, cv, bv, kv, dv, rfl, hv', hf', hg'⟩ := hv
  have Vv := Lib.hid hv'
  have Fv := Lib.hid (fun A hA => Nat.le_trans hsz (hf' A hA))
  have Gv := Lib.hid (fun A hA => Nat.le_trans hsz (hg' A hA))
  clear hv' hf' hg' hsz
  clear VL
  have cc0 := Kc.out.cell (i := 0) (v := .string nm) rfl
  have cc1 := Kc.out.cell (i := 1) (v := .int .i64 lo) rfl
  have cc2 := Kc.out.cell (i := 2) (v := .int .i64 hi) rfl
  have cc3 := Kc.out.cell (i := 3) (v := .int .i64 st) rfl
  have cc4 := Kc.out.cell (i := 4) (v := .int .i64 3) rfl
  have cc5 := Kc.out.cell (i := 5) (v := .int .i64 0) rfl
  have cc6 := Kc.out.cell (i := 6) (v := .bool rv) rfl
  obtain ⟨cr0, cr1, cr2, cr3⟩ := bk4 Kr
  have cn0 := bk1 Kn
  have cl0 := bk1 Kl
  obtain ⟨g0, z0, g1, z1, g2, z2, g3, z3⟩ := bp4 Kr (.bool nv) (.slice av qv cv) (.bool false) (.slice bv kv dv)
  go_wp2_with fail
  clear g0 z0 g1 z1 g2 z2 g3 z3
  clear cc0 cc1 cc2 cc3 cc4 cc5 cc6 cr0 cr1 cr2 cr3 cn0 cl0
  replace Vv := (by first | exact rv4 Vv Kr (.bool nv) (.slice av qv cv) (.bool false) (.slice bv kv dv) rfl rfl rfl rfl | exact bv4 Vv Kr (.bool nv) (.slice av qv cv) (.bool false) (.slice bv kv dv) rfl rfl rfl rfl)
  replace hx := bx4 hx (w.heap.size + 1) (.bool nv) (.slice av qv cv) (.bool false) (.slice bv kv dv) (by omega)
  replace Kc := bo4 Kc (w.heap.size + 1) (.bool nv) (.slice av qv cv) (.bool false) (.slice bv kv dv) (by omega)
  replace Kr := bs4 Kr (.bool nv) (.slice av qv cv) (.bool false) (.slice bv kv dv)
  replace Kn := bo4 Kn (w.heap.size + 1) (.bool nv) (.slice av qv cv) (.bool false) (.slice bv kv dv) (by omega)
  replace Kl := bo4 Kl (w.heap.size + 1) (.bool nv) (.slice av qv cv) (.bool false) (.slice bv kv dv) (by omega)
  generalize ((((x14).setCell ⟨w.heap.size + 1, 0, none⟩ (.bool nv)).setCell ⟨w.heap.size + 1, 1, none⟩ (.slice av qv cv)).setCell ⟨w.heap.size + 1, 2, none⟩ (.bool false)).setCell ⟨w.heap.size + 1, 3, none⟩ (.slice bv kv dv) = x15 at *
  obtain ⟨cr0, cr1, cr2, cr3⟩ := bk4 Kr
  refine bodyPost_ret (v := .tuple #[.agg #[.bool nv, .slice av qv cv, .bool false, .slice bv kv dv], .int .i64 0]) (by simp [results, Try.results24, go_sem, cr0, cr1, cr2, cr3]) rfl ?_
  exact ⟨_, rfl, ⟨_, _, _, _, _, _, _, rfl, Vv.out, Fv.out, Gv.out⟩, hx⟩
set_option maxHeartbeats 4000000 in
theorem combine_Total_none (c : CritA) (hc : c.In) (hr : rightC c = true) (a : Option Addr) (cap : Nat) (l : List Int) (w : World) (h : Ints w a cap l) (hl2 : l.length ≤ 256) (hl : l.length = 0) :
    Calls Try.prog 24 #[c.val, .slice a l.length cap] w (RatE 160 w) := by
  have hle := h.le
  have hmx := h.mx
  have hrr := rightC_iff.1 hr
  have HC := Lib.hid (combine_right c hc)
  rw [hr] at HC
  have HB := Lib.hid (fun wx => combine_better c a l.length cap wx)
  have HI := Lib.hid h
  have HSB := Lib.hid (fun w0 w h hw => sorted_of_better c hc hr a cap l (by omega) w0 w h hw)
  have HM := Lib.hid (fun x => mem_srtC (l := l) (x := x) hrr)
  rw [show (bet c l).mergeSort (fun x y => decide (x ≤ y)) = srtC c l from rfl] at HSB
  have HL := Lib.hid (srtC_len (c := c) (l := l))
  have tr1 := hrr.tr
  have tr2 := hrr.tm

  generalize srtC c l = S at *
  generalize (bet c l).length = bl at *
  obtain ⟨nm, lo, hi, st, how, tr, rv⟩ := c
  dsimp only [CritA.val, CritA.cells] at *
  replace hl := Lib.hid hl
  clear h hrr hr hc
  obtain ⟨x1, hw, hx, Kc, Kr, Kn⟩ := boxQ3 w #[.string nm, .int .i64 lo, .int .i64 hi, .int .i64 st, .int .i64 how, .int .i64 tr, .bool rv] 48 #[.bool false, .slice none 0 0, .bool false, .slice none 0 0] 35 #[.int .i64 (l.length : Int)] 3
  replace hw := Lib.hid hw
  go_enter Try.func24, Try.ntmps24
  go_upto_region 2 with fail
  try simp only [Nat.add_assoc, Nat.reduceAdd, Nat.add_zero]
  rw [hw.out]
  clear hw
  have hs0 := hx.size
  have cc0 := Kc.out.cell (i := 0) (v := .string nm) rfl
  have cc1 := Kc.out.cell (i := 1) (v := .int .i64 lo) rfl
  have cc2 := Kc.out.cell (i := 2) (v := .int .i64 hi) rfl
  have cc3 := Kc.out.cell (i := 3) (v := .int .i64 st) rfl
  have cc4 := Kc.out.cell (i := 4) (v := .int .i64 how) rfl
  have cc5 := Kc.out.cell (i := 5) (v := .int .i64 tr) rfl
  have cc6 := Kc.out.cell (i := 6) (v := .bool rv) rfl
  obtain ⟨cr0, cr1, cr2, cr3⟩ := bk4 Kr
  have cn0 := bk1 Kn
  go_wp2_with fail
  with_reducible refine (HC.out _).mono ?_
  clear cc0 cc1 cc2 cc3 cc4 cc5 cc6 cr0 cr1 cr2 cr3 cn0
  rintro e x2 ⟨rfl, hy⟩
  replace hx := hx.trans hy
  replace Kc := kE Kc hy
  replace Kr := kE Kr hy
  replace Kn := kE Kn hy
  clear hy
  have cc0 := Kc.out.cell (i := 0) (v := .string nm) rfl
  have cc1 := Kc.out.cell (i := 1) (v := .int .i64 lo) rfl
  have cc2 := Kc.out.cell (i := 2) (v := .int .i64 hi) rfl
  have cc3 := Kc.out.cell (i := 3) (v := .int .i64 st) rfl
  have cc4 := Kc.out.cell (i := 4) (v := .int .i64 how) rfl
  have cc5 := Kc.out.cell (i := 5) (v := .int .i64 tr) rfl
  have cc6 := Kc.out.cell (i := 6) (v := .bool rv) rfl
  obtain ⟨cr0, cr1, cr2, cr3⟩ := bk4 Kr
  have cn0 := bk1 Kn
  go_wp2_with fail
  refine (HB.out _).mono ?_
  rintro e x3 ⟨rfl, hw3⟩
  have hy : Ext x2 x3 := by rw [hw3]; exact ((Ext.refl _).alloc' _).alloc' _
  have hI2 := HI.out.ext hx
  replace hw3 := Lib.hid hw3.symm
  clear cc0 cc1 cc2 cc3 cc4 cc5 cc6 cr0 cr1 cr2 cr3 cn0
  replace hx := hx.trans hy
  replace Kc := kE Kc hy
  replace Kr := kE Kr hy
  replace Kn := kE Kn hy
  clear hy
  have cc0 := Kc.out.cell (i := 0) (v := .string nm) rfl
  have cc1 := Kc.out.cell (i := 1) (v := .int .i64 lo) rfl
  have cc2 := Kc.out.cell (i := 2) (v := .int .i64 hi) rfl
  have cc3 := Kc.out.cell (i := 3) (v := .int .i64 st) rfl
  have cc4 := Kc.out.cell (i := 4) (v := .int .i64 how) rfl
  have cc5 := Kc.out.cell (i := 5) (v := .int .i64 tr) rfl
  have cc6 := Kc.out.cell (i := 6) (v := .bool rv) rfl
  obtain ⟨cr0, cr1, cr2, cr3⟩ := bk4 Kr
  have cn0 := bk1 Kn
  go_wp2_with fail
  refine (HSB.out _ _ hI2 hw3.out).mono ?_
  rintro e x4 ⟨v, rfl, hv, hy⟩
  clear hw3 hI2 HB HI HSB
  clear cc0 cc1 cc2 cc3 cc4 cc5 cc6 cr0 cr1 cr2 cr3 cn0
  replace hx := hx.trans hy
  replace Kc := kE Kc hy
  replace Kr := kE Kr hy
  replace Kn := kE Kn hy
  clear hy
  obtain ⟨al, cl, rfl, hIl, hal⟩ := ints_of_owns hv HM.out
  have hle2 := hIl.le
  have hmx2 := hIl.mx
  have VL := Lib.hid hIl
  have HAL := Lib.hid hal
  clear hv hIl hal
  go_upto_region 7 with fail
  have hl := Ext.alloc x4 (.cells #[.slice al S.length cl] 27)
  have lcl : w.heap.size < x4.heap.size := Kc.out.lt
  have lrl : w.heap.size + 1 < x4.heap.size := Kr.out.lt
  have lnl : w.heap.size + 2 < x4.heap.size := Kn.out.lt
  have hpl : w.heap.size ≤ x4.heap.size := hx.size
  replace hx := hx.trans hl
  replace Kc := kE Kc hl
  replace Kr := kE Kr hl
  replace Kn := kE Kn hl
  replace VL := Lib.hid (VL.out.ext hl)
  have Kl := Lib.hid (Blk.new0 x4 #[.slice al S.length cl] 27)
  clear hl
  generalize x4.alloc (.cells #[.slice al S.length cl] 27) = x13 at *
  generalize x4.heap.size = pl at *
  have hSl := HL.out
  clear HL
  have t1 : ((l.length : Int) == 0) = true := by simp [hl.out]
  have t1n : l = [] := List.eq_nil_of_length_eq_zero hl.out
  clear hSl
  clear VL
  have cc0 := Kc.out.cell (i := 0) (v := .string nm) rfl
  have cc1 := Kc.out.cell (i := 1) (v := .int .i64 lo) rfl
  have cc2 := Kc.out.cell (i := 2) (v := .int .i64 hi) rfl
  have cc3 := Kc.out.cell (i := 3) (v := .int .i64 st) rfl
  have cc4 := Kc.out.cell (i := 4) (v := .int .i64 how) rfl
  have cc5 := Kc.out.cell (i := 5) (v := .int .i64 tr) rfl
  have cc6 := Kc.out.cell (i := 6) (v := .bool rv) rfl
  obtain ⟨cr0, cr1, cr2, cr3⟩ := bk4 Kr
  have cn0 := bk1 Kn
  have cl0 := bk1 Kl
  obtain ⟨g0, z0, g1, z1, g2, z2, g3, z3⟩ := bp4 Kr (.bool false) (.slice none 0 0) (.bool false) (.slice none 0 0)
  go_wp2_with fail
  clear g0 z0 g1 z1 g2 z2 g3 z3
  clear cc0 cc1 cc2 cc3 cc4 cc5 cc6 cr0 cr1 cr2 cr3 cn0 cl0
  replace hx := bx4 hx (w.heap.size + 1) (.bool false) (.slice none 0 0) (.bool false) (.slice none 0 0) (by omega)
  replace Kc := bo4 Kc (w.heap.size + 1) (.bool false) (.slice none 0 0) (.bool false) (.slice none 0 0) (by omega)
  replace Kr := bs4 Kr (.bool false) (.slice none 0 0) (.bool false) (.slice none 0 0)
  replace Kn := bo4 Kn (w.heap.size + 1) (.bool false) (.slice none 0 0) (.bool false) (.slice none 0 0) (by omega)
  replace Kl := bo4 Kl (w.heap.size + 1) (.bool false) (.slice none 0 0) (.bool false) (.slice none 0 0) (by omega)
  generalize ((((x13).setCell ⟨w.heap.size + 1, 0, none⟩ (.bool false)).setCell ⟨w.heap.size + 1, 1, none⟩ (.slice none 0 0)).setCell ⟨w.heap.size + 1, 2, none⟩ (.bool false)).setCell ⟨w.heap.size + 1, 3, none⟩ (.slice none 0 0) = x14 at *
  obtain ⟨cr0, cr1, cr2, cr3⟩ := bk4 Kr
  refine bodyPost_ret (v := .tuple #[.agg #[.bool false, .slice none 0 0, .bool false, .slice none 0 0], .int .i64 160]) (by simp [results, Try.results24, go_sem, cr0, cr1, cr2, cr3]) rfl ?_
  exact ⟨rfl, hx⟩
set_option maxHeartbeats 4000000 in
theorem combine_Total_off (c : CritA) (hc : c.In) (hr : rightC c = true) (a : Option Addr) (cap : Nat) (l : List Int) (w : World) (h : Ints w a cap l) (hl2 : l.length ≤ 256) (hl : 0 < l.length) (hon : (bet c l).length < l.length) :
    Calls Try.prog 24 #[c.val, .slice a l.length cap] w (RatE 160 w) := by
  have hle := h.le
  have hmx := h.mx
  have hrr := rightC_iff.1 hr
  have HC := Lib.hid (combine_right c hc)
  rw [hr] at HC
  have HB := Lib.hid (fun wx => combine_better c a l.length cap wx)
  have HI := Lib.hid h
  have HSB := Lib.hid (fun w0 w h hw => sorted_of_better c hc hr a cap l (by omega) w0 w h hw)
  have HM := Lib.hid (fun x => mem_srtC (l := l) (x := x) hrr)
  rw [show (bet c l).mergeSort (fun x y => decide (x ≤ y)) = srtC c l from rfl] at HSB
  have HL := Lib.hid (srtC_len (c := c) (l := l))
  have tr1 := hrr.tr
  have tr2 := hrr.tm

  generalize srtC c l = S at *
  generalize (bet c l).length = bl at *
  obtain ⟨nm, lo, hi, st, how, tr, rv⟩ := c
  dsimp only [CritA.val, CritA.cells] at *

  clear h hrr hr hc
  obtain ⟨x1, hw, hx, Kc, Kr, Kn⟩ := boxQ3 w #[.string nm, .int .i64 lo, .int .i64 hi, .int .i64 st, .int .i64 how, .int .i64 tr, .bool rv] 48 #[.bool false, .slice none 0 0, .bool false, .slice none 0 0] 35 #[.int .i64 (l.length : Int)] 3
  replace hw := Lib.hid hw
  go_enter Try.func24, Try.ntmps24
  go_upto_region 2 with fail
  try simp only [Nat.add_assoc, Nat.reduceAdd, Nat.add_zero]
  rw [hw.out]
  clear hw
  have hs0 := hx.size
  have cc0 := Kc.out.cell (i := 0) (v := .string nm) rfl
  have cc1 := Kc.out.cell (i := 1) (v := .int .i64 lo) rfl
  have cc2 := Kc.out.cell (i := 2) (v := .int .i64 hi) rfl
  have cc3 := Kc.out.cell (i := 3) (v := .int .i64 st) rfl
  have cc4 := Kc.out.cell (i := 4) (v := .int .i64 how) rfl
  have cc5 := Kc.out.cell (i := 5) (v := .int .i64 tr) rfl
  have cc6 := Kc.out.cell (i := 6) (v := .bool rv) rfl
  obtain ⟨cr0, cr1, cr2, cr3⟩ := bk4 Kr
  have cn0 := bk1 Kn
  go_wp2_with fail
  with_reducible refine (HC.out _).mono ?_
  clear cc0 cc1 cc2 cc3 cc4 cc5 cc6 cr0 cr1 cr2 cr3 cn0
  rintro e x2 ⟨rfl, hy⟩
  replace hx := hx.trans hy
  replace Kc := kE Kc hy
  replace Kr := kE Kr hy
  replace Kn := kE Kn hy
  clear hy
  have cc0 := Kc.out.cell (i := 0) (v := .string nm) rfl
  have cc1 := Kc.out.cell (i := 1) (v := .int .i64 lo) rfl
  have cc2 := Kc.out.cell (i := 2) (v := .int .i64 hi) rfl
  have cc3 := Kc.out.cell (i := 3) (v := .int .i64 st) rfl
  have cc4 := Kc.out.cell (i := 4) (v := .int .i64 how) rfl
  have cc5 := Kc.out.cell (i := 5) (v := .int .i64 tr) rfl
  have cc6 := Kc.out.cell (i := 6) (v := .bool rv) rfl
  obtain ⟨cr0, cr1, cr2, cr3⟩ := bk4 Kr
  have cn0 := bk1 Kn
  go_wp2_with fail
  refine (HB.out _).mono ?_
  rintro e x3 ⟨rfl, hw3⟩
  have hy : Ext x2 x3 := by rw [hw3]; exact ((Ext.refl _).alloc' _).alloc' _
  have hI2 := HI.out.ext hx
  replace hw3 := Lib.hid hw3.symm
  clear cc0 cc1 cc2 cc3 cc4 cc5 cc6 cr0 cr1 cr2 cr3 cn0
  replace hx := hx.trans hy
  replace Kc := kE Kc hy
  replace Kr := kE Kr hy
  replace Kn := kE Kn hy
  clear hy
  have cc0 := Kc.out.cell (i := 0) (v := .string nm) rfl
  have cc1 := Kc.out.cell (i := 1) (v := .int .i64 lo) rfl
  have cc2 := Kc.out.cell (i := 2) (v := .int .i64 hi) rfl
  have cc3 := Kc.out.cell (i := 3) (v := .int .i64 st) rfl
  have cc4 := Kc.out.cell (i := 4) (v := .int .i64 how) rfl
  have cc5 := Kc.out.cell (i := 5) (v := .int .i64 tr) rfl
  have cc6 := Kc.out.cell (i := 6) (v := .bool rv) rfl
  obtain ⟨cr0, cr1, cr2, cr3⟩ := bk4 Kr
  have cn0 := bk1 Kn
  go_wp2_with fail
  refine (HSB.out _ _ hI2 hw3.out).mono ?_
  rintro e x4 ⟨v, rfl, hv, hy⟩
  clear hw3 hI2 HB HI HSB
  clear cc0 cc1 cc2 cc3 cc4 cc5 cc6 cr0 cr1 cr2 cr3 cn0
  replace hx := hx.trans hy
  replace Kc := kE Kc hy
  replace Kr := kE Kr hy
  replace Kn := kE Kn hy
  clear hy
  obtain ⟨al, cl, rfl, hIl, hal⟩ := ints_of_owns hv HM.out
  have hle2 := hIl.le
  have hmx2 := hIl.mx
  have VL := Lib.hid hIl
  have HAL := Lib.hid hal
  clear hv hIl hal
  go_upto_region 7 with fail
  have hl := Ext.alloc x4 (.cells #[.slice al S.length cl] 27)
  have lcl : w.heap.size < x4.heap.size := Kc.out.lt
  have lrl : w.heap.size + 1 < x4.heap.size := Kr.out.lt
  have lnl : w.heap.size + 2 < x4.heap.size := Kn.out.lt
  have hpl : w.heap.size ≤ x4.heap.size := hx.size
  replace hx := hx.trans hl
  replace Kc := kE Kc hl
  replace Kr := kE Kr hl
  replace Kn := kE Kn hl
  replace VL := Lib.hid (VL.out.ext hl)
  have Kl := Lib.hid (Blk.new0 x4 #[.slice al S.length cl] 27)
  clear hl
  generalize x4.alloc (.cells #[.slice al S.length cl] 27) = x13 at *
  generalize x4.heap.size = pl at *
  have hSl := HL.out
  clear HL
  have t1 : ((l.length : Int) == 0) = false := beq_false_of_ne (by omega)
  have t1n : ¬ l = [] := List.ne_nil_of_length_pos hl
  have t2 : decide ((S.length : Int) < (l.length : Int)) = true := decide_eq_true (by omega)
  have t2n : S.length < l.length := by omega
  clear hSl hon
  clear VL
  have cc0 := Kc.out.cell (i := 0) (v := .string nm) rfl
  have cc1 := Kc.out.cell (i := 1) (v := .int .i64 lo) rfl
  have cc2 := Kc.out.cell (i := 2) (v := .int .i64 hi) rfl
  have cc3 := Kc.out.cell (i := 3) (v := .int .i64 st) rfl
  have cc4 := Kc.out.cell (i := 4) (v := .int .i64 how) rfl
  have cc5 := Kc.out.cell (i := 5) (v := .int .i64 tr) rfl
  have cc6 := Kc.out.cell (i := 6) (v := .bool rv) rfl
  obtain ⟨cr0, cr1, cr2, cr3⟩ := bk4 Kr
  have cn0 := bk1 Kn
  have cl0 := bk1 Kl
  obtain ⟨g0, z0, g1, z1, g2, z2, g3, z3⟩ := bp4 Kr (.bool false) (.slice none 0 0) (.bool false) (.slice none 0 0)
  go_wp2_with fail
  clear g0 z0 g1 z1 g2 z2 g3 z3
  clear cc0 cc1 cc2 cc3 cc4 cc5 cc6 cr0 cr1 cr2 cr3 cn0 cl0
  replace hx := bx4 hx (w.heap.size + 1) (.bool false) (.slice none 0 0) (.bool false) (.slice none 0 0) (by omega)
  replace Kc := bo4 Kc (w.heap.size + 1) (.bool false) (.slice none 0 0) (.bool false) (.slice none 0 0) (by omega)
  replace Kr := bs4 Kr (.bool false) (.slice none 0 0) (.bool false) (.slice none 0 0)
  replace Kn := bo4 Kn (w.heap.size + 1) (.bool false) (.slice none 0 0) (.bool false) (.slice none 0 0) (by omega)
  replace Kl := bo4 Kl (w.heap.size + 1) (.bool false) (.slice none 0 0) (.bool false) (.slice none 0 0) (by omega)
  generalize ((((x13).setCell ⟨w.heap.size + 1, 0, none⟩ (.bool false)).setCell ⟨w.heap.size + 1, 1, none⟩ (.slice none 0 0)).setCell ⟨w.heap.size + 1, 2, none⟩ (.bool false)).setCell ⟨w.heap.size + 1, 3, none⟩ (.slice none 0 0) = x14 at *
  obtain ⟨cr0, cr1, cr2, cr3⟩ := bk4 Kr
  refine bodyPost_ret (v := .tuple #[.agg #[.bool false, .slice none 0 0, .bool false, .slice none 0 0], .int .i64 160]) (by simp [results, Try.results24, go_sem, cr0, cr1, cr2, cr3]) rfl ?_
  exact ⟨rfl, hx⟩
set_option maxHeartbeats 4000000 in
theorem combine_Total_few (c : CritA) (hc : c.In) (hr : rightC c = true) (a : Option Addr) (cap : Nat) (l : List Int) (w : World) (h : Ints w a cap l) (hl2 : l.length ≤ 256) (hl : 0 < l.length) (hon : (bet c l).length = l.length) (ht : (l.length : Int) ≤ 2 * c.tr) :
    Calls Try.prog 24 #[c.val, .slice a l.length cap] w (RatE 160 w) := by
  have hle := h.le
  have hmx := h.mx
  have hrr := rightC_iff.1 hr
  have HC := Lib.hid (combine_right c hc)
  rw [hr] at HC
  have HB := Lib.hid (fun wx => combine_better c a l.length cap wx)
  have HI := Lib.hid h
  have HSB := Lib.hid (fun w0 w h hw => sorted_of_better c hc hr a cap l (by omega) w0 w h hw)
  have HM := Lib.hid (fun x => mem_srtC (l := l) (x := x) hrr)
  rw [show (bet c l).mergeSort (fun x y => decide (x ≤ y)) = srtC c l from rfl] at HSB
  have HL := Lib.hid (srtC_len (c := c) (l := l))
  have tr1 := hrr.tr
  have tr2 := hrr.tm

  generalize srtC c l = S at *
  generalize (bet c l).length = bl at *
  obtain ⟨nm, lo, hi, st, how, tr, rv⟩ := c
  dsimp only [CritA.val, CritA.cells] at *

  clear h hrr hr hc
  obtain ⟨x1, hw, hx, Kc, Kr, Kn⟩ := boxQ3 w #[.string nm, .int .i64 lo, .int .i64 hi, .int .i64 st, .int .i64 how, .int .i64 tr, .bool rv] 48 #[.bool false, .slice none 0 0, .bool false, .slice none 0 0] 35 #[.int .i64 (l.length : Int)] 3
  replace hw := Lib.hid hw
  go_enter Try.func24, Try.ntmps24
  go_upto_region 2 with fail
  try simp only [Nat.add_assoc, Nat.reduceAdd, Nat.add_zero]
  rw [hw.out]
  clear hw
  have hs0 := hx.size
  have cc0 := Kc.out.cell (i := 0) (v := .string nm) rfl
  have cc1 := Kc.out.cell (i := 1) (v := .int .i64 lo) rfl
  have cc2 := Kc.out.cell (i := 2) (v := .int .i64 hi) rfl
  have cc3 := Kc.out.cell (i := 3) (v := .int .i64 st) rfl
  have cc4 := Kc.out.cell (i := 4) (v := .int .i64 how) rfl
  have cc5 := Kc.out.cell (i := 5) (v := .int .i64 tr) rfl
  have cc6 := Kc.out.cell (i := 6) (v := .bool rv) rfl
  obtain ⟨cr0, cr1, cr2, cr3⟩ := bk4 Kr
  have cn0 := bk1 Kn
  go_wp2_with fail
  with_reducible refine (HC.out _).mono ?_
  clear cc0 cc1 cc2 cc3 cc4 cc5 cc6 cr0 cr1 cr2 cr3 cn0
  rintro e x2 ⟨rfl, hy⟩
  replace hx := hx.trans hy
  replace Kc := kE Kc hy
  replace Kr := kE Kr hy
  replace Kn := kE Kn hy
  clear hy
  have cc0 := Kc.out.cell (i := 0) (v := .string nm) rfl
  have cc1 := Kc.out.cell (i := 1) (v := .int .i64 lo) rfl
  have cc2 := Kc.out.cell (i := 2) (v := .int .i64 hi) rfl
  have cc3 := Kc.out.cell (i := 3) (v := .int .i64 st) rfl
  have cc4 := Kc.out.cell (i := 4) (v := .int .i64 how) rfl
  have cc5 := Kc.out.cell (i := 5) (v := .int .i64 tr) rfl
  have cc6 := Kc.out.cell (i := 6) (v := .bool rv) rfl
  obtain ⟨cr0, cr1, cr2, cr3⟩ := bk4 Kr
  have cn0 := bk1 Kn
  go_wp2_with fail
  refine (HB.out _).mono ?_
  rintro e x3 ⟨rfl, hw3⟩
  have hy : Ext x2 x3 := by rw [hw3]; exact ((Ext.refl _).alloc' _).alloc' _
  have hI2 := HI.out.ext hx
  replace hw3 := Lib.hid hw3.symm
  clear cc0 cc1 cc2 cc3 cc4 cc5 cc6 cr0 cr1 cr2 cr3 cn0
  replace hx := hx.trans hy
  replace Kc := kE Kc hy
  replace Kr := kE Kr hy
  replace Kn := kE Kn hy
  clear hy
  have cc0 := Kc.out.cell (i := 0) (v := .string nm) rfl
  have cc1 := Kc.out.cell (i := 1) (v := .int .i64 lo) rfl
  have cc2 := Kc.out.cell (i := 2) (v := .int .i64 hi) rfl
  have cc3 := Kc.out.cell (i := 3) (v := .int .i64 st) rfl
  have cc4 := Kc.out.cell (i := 4) (v := .int .i64 how) rfl
  have cc5 := Kc.out.cell (i := 5) (v := .int .i64 tr) rfl
  have cc6 := Kc.out.cell (i := 6) (v := .bool rv) rfl
  obtain ⟨cr0, cr1, cr2, cr3⟩ := bk4 Kr
  have cn0 := bk1 Kn
  go_wp2_with fail
  refine (HSB.out _ _ hI2 hw3.out).mono ?_
  rintro e x4 ⟨v, rfl, hv, hy⟩
  clear hw3 hI2 HB HI HSB
  clear cc0 cc1 cc2 cc3 cc4 cc5 cc6 cr0 cr1 cr2 cr3 cn0
  replace hx := hx.trans hy
  replace Kc := kE Kc hy
  replace Kr := kE Kr hy
  replace Kn := kE Kn hy
  clear hy
  obtain ⟨al, cl, rfl, hIl, hal⟩ := ints_of_owns hv HM.out
  have hle2 := hIl.le
  have hmx2 := hIl.mx
  have VL := Lib.hid hIl
  have HAL := Lib.hid hal
  clear hv hIl hal
  go_upto_region 7 with fail
  have hl := Ext.alloc x4 (.cells #[.slice al S.length cl] 27)
  have lcl : w.heap.size < x4.heap.size := Kc.out.lt
  have lrl : w.heap.size + 1 < x4.heap.size := Kr.out.lt
  have lnl : w.heap.size + 2 < x4.heap.size := Kn.out.lt
  have hpl : w.heap.size ≤ x4.heap.size := hx.size
  replace hx := hx.trans hl
  replace Kc := kE Kc hl
  replace Kr := kE Kr hl
  replace Kn := kE Kn hl
  replace VL := Lib.hid (VL.out.ext hl)
  have Kl := Lib.hid (Blk.new0 x4 #[.slice al S.length cl] 27)
  clear hl
  generalize x4.alloc (.cells #[.slice al S.length cl] 27) = x13 at *
  generalize x4.heap.size = pl at *
  have hSl := HL.out
  clear HL
  have t1 : ((l.length : Int) == 0) = false := beq_false_of_ne (by omega)
  have t1n : ¬ l = [] := List.ne_nil_of_length_pos hl
  have t2 : decide ((S.length : Int) < (l.length : Int)) = false := decide_eq_false (by omega)
  have t2n : ¬ S.length < l.length := by omega
  have t3 : decide ((l.length : Int) ≤ 2 * tr) = true := decide_eq_true (by omega)
  clear hSl hon
  clear VL
  have cc0 := Kc.out.cell (i := 0) (v := .string nm) rfl
  have cc1 := Kc.out.cell (i := 1) (v := .int .i64 lo) rfl
  have cc2 := Kc.out.cell (i := 2) (v := .int .i64 hi) rfl
  have cc3 := Kc.out.cell (i := 3) (v := .int .i64 st) rfl
  have cc4 := Kc.out.cell (i := 4) (v := .int .i64 how) rfl
  have cc5 := Kc.out.cell (i := 5) (v := .int .i64 tr) rfl
  have cc6 := Kc.out.cell (i := 6) (v := .bool rv) rfl
  obtain ⟨cr0, cr1, cr2, cr3⟩ := bk4 Kr
  have cn0 := bk1 Kn
  have cl0 := bk1 Kl
  obtain ⟨g0, z0, g1, z1, g2, z2, g3, z3⟩ := bp4 Kr (.bool false) (.slice none 0 0) (.bool false) (.slice none 0 0)
  go_wp2_with fail
  clear g0 z0 g1 z1 g2 z2 g3 z3
  clear cc0 cc1 cc2 cc3 cc4 cc5 cc6 cr0 cr1 cr2 cr3 cn0 cl0
  replace hx := bx4 hx (w.heap.size + 1) (.bool false) (.slice none 0 0) (.bool false) (.slice none 0 0) (by omega)
  replace Kc := bo4 Kc (w.heap.size + 1) (.bool false) (.slice none 0 0) (.bool false) (.slice none 0 0) (by omega)
  replace Kr := bs4 Kr (.bool false) (.slice none 0 0) (.bool false) (.slice none 0 0)
  replace Kn := bo4 Kn (w.heap.size + 1) (.bool false) (.slice none 0 0) (.bool false) (.slice none 0 0) (by omega)
  replace Kl := bo4 Kl (w.heap.size + 1) (.bool false) (.slice none 0 0) (.bool false) (.slice none 0 0) (by omega)
  generalize ((((x13).setCell ⟨w.heap.size + 1, 0, none⟩ (.bool false)).setCell ⟨w.heap.size + 1, 1, none⟩ (.slice none 0 0)).setCell ⟨w.heap.size + 1, 2, none⟩ (.bool false)).setCell ⟨w.heap.size + 1, 3, none⟩ (.slice none 0 0) = x14 at *
  obtain ⟨cr0, cr1, cr2, cr3⟩ := bk4 Kr
  refine bodyPost_ret (v := .tuple #[.agg #[.bool false, .slice none 0 0, .bool false, .slice none 0 0], .int .i64 160]) (by simp [results, Try.results24, go_sem, cr0, cr1, cr2, cr3]) rfl ?_
  exact ⟨rfl, hx⟩
end Go.Proofs.Ytmcbbhlglccmgaa
