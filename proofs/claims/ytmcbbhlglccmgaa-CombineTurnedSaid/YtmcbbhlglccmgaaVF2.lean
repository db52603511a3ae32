/- CombineTurned: the Go law returns true at every input, and its arguments read as before. -/
import Derived.Test.YtmcbbhlglccmgaaVSane
import Derived.Test.YtmcbbhlglccmgaaVR
import Derived.Test.YtmcbbhlglccmgaaRows
import Derived.Test.YtmcbbhlglccmgaaVOpen
import Derived.ShutString
import Derived.ChangeOld
import Derived.Below
namespace Go.Proofs.Ytmcbbhlglccmgaa
open Go.RowKit Go BigFrame
set_option maxRecDepth 100000
set_option linter.unusedSimpArgs false
set_option linter.unusedVariables false

/-! law16.CombineTurned. -/
abbrev turned (c : CritA) : CritA := ⟨c.nm, c.lo, c.hi, c.st, c.how, c.tr, !c.rv⟩
def around (c : CritA) (l : List Int) : List Int := l.map (fun m => c.lo + c.hi - m)
theorem right_turned (c : CritA) : rightC (turned c) = rightC c := rfl
theorem in_turned {c : CritA} (h : c.In) : (turned c).In := ⟨h.lo, h.hi, h.st, h.how, h.tr⟩
theorem emod_neg_zero {a b n : Int} (h1 : a % n = 0) (h2 : b % n = 0) : (a - b) % n = 0 := Int.emod_eq_zero_of_dvd (Int.dvd_sub (Int.dvd_of_emod_eq_zero h1) (Int.dvd_of_emod_eq_zero h2))
theorem on_around {c : CritA} (hr : RightC c) {m : Int} (h : onC c m = true) : onC (turned c) (c.lo + c.hi - m) = true ∧ onC c (c.lo + c.hi - m) = true ∧ turnC (turned c) (c.lo + c.hi - m) = turnC c m ∧ turnC c m + turnC (turned c) m = c.lo + c.hi ∧ onC c (turnC c m) = true := by
  obtain ⟨h1, h2, h3⟩ := onC_iff.1 h
  have e : (c.lo + c.hi - m - c.lo) % c.st = 0 := by
    have := emod_neg_zero hr.dv h3
    rwa [show c.hi - c.lo - (m - c.lo) = c.lo + c.hi - m - c.lo by omega] at this
  have ho : onC c (c.lo + c.hi - m) = true := onC_iff.2 ⟨by omega, by omega, e⟩
  refine ⟨ho, ho, ?_, ?_, ?_⟩
  · unfold turnC
    cases hc : c.rv
    · simp [hc]; omega
    · simp [hc]
  · unfold turnC
    cases hc : c.rv
    · simp [hc]; omega
    · simp [hc]
  · unfold turnC
    cases hc : c.rv
    · simpa using h
    · simpa using ho
theorem acc_around {c : CritA} {l : List Int} (hr : RightC c) (h : ∀ x ∈ l, onC c x = true) : accL (turned c) (around c l) (around c l).length = accL c l l.length := by
  unfold accL around
  rw [List.take_length, List.take_length, List.map_map]
  congr 1
  refine List.map_congr_left fun x hx => ?_
  exact (on_around hr (h x hx)).2.2.1
theorem tot_around {c : CritA} {l : List Int} (h : RtB c l) : totE c l = 0 ∧ totE (turned c) (around c l) = 0 ∧ totQ (turned c) (around c l) = totQ c l := by
  have hr := rightC_iff.1 h.r
  have hlen : (around c l).length = l.length := List.length_map ..
  have h1 : onAll c l = true := onAll_iff.2 h.on
  have h2 : onAll (turned c) (around c l) = true := onAll_iff.2 (fun x hx => by
    obtain ⟨m, hm, rfl⟩ := List.mem_map.1 hx
    exact (on_around hr (h.on m hm)).1)
  have ha := acc_around hr h.on
  have hp := h.p
  have hm := h.m
  have ht := h.t
  have hrt : rightC (turned c) = true := h.r
  refine ⟨?_, ?_, ?_⟩
  · unfold totE
    rw [h.r, h1]
    simp only [if_true]
    rw [if_neg (by omega), if_neg]
    rintro (q | q | q)
    · omega
    · cases q
    · exact ht q
  · unfold totE
    rw [hrt, h2, hlen]
    simp only [if_true]
    rw [if_neg (by omega), if_neg]
    rintro (q | q | q)
    · omega
    · cases q
    · exact ht q
  · unfold totQ
    rw [ha, hlen]
structure OwS (w : World) (B : Nat) (v : Value) (T : List Int) : Prop where
  h : ows w B v T
theorem OwS.ext {w w' : World} {B : Nat} {v : Value} {T : List Int} (h : OwS w B v T) (k : Ext w w') : OwS w' B v T := ⟨ownsRow_ext h.h k⟩
structure ExS (X w : World) : Prop where
  h : Ext X w
theorem ExS.ext {X w w' : World} (h : ExS X w) (k : Ext w w') : ExS X w' := ⟨h.h.trans k⟩
set_option maxHeartbeats 8000000 in
theorem law_CTurn_no (c : CritA) (hc : c.In) (a : Option Addr) (cap : Nat) (l : List Int) (w : World) (h : Ints w a cap l) (hf : rtB c l = false) :
    Calls Try.prog 6 #[c.val, .slice a l.length cap] w fun e w' => e = .returned (.bool true) ∧ Ext w w' := by
  have hle := h.le
  have hmx := h.mx
  have HRt := Lib.hid (fun W (hW : Ext w W) => law16_right c hc a cap l W (h.ext hW))
  rw [hf] at HRt
  obtain ⟨nm, lo, hi, st, how, tr, rv⟩ := c
  dsimp only [CritA.val, CritA.cells] at *
  clear h hf hc
  obtain ⟨x1, hw, hx, Kc⟩ := boxQ1 w #[.string nm, .int .i64 lo, .int .i64 hi, .int .i64 st, .int .i64 how, .int .i64 tr, .bool rv] 48
  replace hw := Lib.hid hw
  go_enter Try.func6, Try.ntmps6
  go_upto_region 1 with fail
  try simp only [Nat.add_assoc, Nat.reduceAdd, Nat.add_zero]
  rw [hw.out]
  clear hw
  have hs0 := hx.size
  have cc0 := Kc.out.cell (i := 0) (v := .string nm) rfl
  have cc1 := Kc.out.cell (i := 1) (v := .int .i64 lo) rfl
  have cc2 := Kc.out.cell (i := 2) (v := .int .i64 hi) rfl
  have cc3 := Kc.out.cell (i := 3) (v := .int .i64 st) rfl
  have cc4 := Kc.out.cell (i := 4) (v := .int .i64 how) rfl
  have cc5 := Kc.out.cell (i := 5) (v := .int .i64 tr) rfl
  have cc6 := Kc.out.cell (i := 6) (v := .bool rv) rfl
  go_wp2_with fail
  with_reducible refine (law16_sane _).mono ?_
  clear cc0 cc1 cc2 cc3 cc4 cc5 cc6
  rintro e x2 ⟨rfl, hy⟩
  replace hx := hx.trans hy
  replace Kc := kE Kc hy
  clear hy
  have cc0 := Kc.out.cell (i := 0) (v := .string nm) rfl
  have cc1 := Kc.out.cell (i := 1) (v := .int .i64 lo) rfl
  have cc2 := Kc.out.cell (i := 2) (v := .int .i64 hi) rfl
  have cc3 := Kc.out.cell (i := 3) (v := .int .i64 st) rfl
  have cc4 := Kc.out.cell (i := 4) (v := .int .i64 how) rfl
  have cc5 := Kc.out.cell (i := 5) (v := .int .i64 tr) rfl
  have cc6 := Kc.out.cell (i := 6) (v := .bool rv) rfl
  go_wp2_with fail
  with_reducible refine (HRt.out _ hx).mono ?_
  clear cc0 cc1 cc2 cc3 cc4 cc5 cc6
  rintro e x3 ⟨rfl, hy⟩
  replace hx := hx.trans hy
  replace Kc := kE Kc hy
  clear hy
  go_wp2_with fail
  go_ret
  exact ⟨rfl, hx⟩
set_option maxHeartbeats 8000000 in
theorem law_CTurn_ok (c : CritA) (hc : c.In) (a : Option Addr) (cap : Nat) (l : List Int) (w : World) (h : Ints w a cap l) (hf : rtB c l = true) :
    Calls Try.prog 6 #[c.val, .slice a l.length cap] w fun e w' => e = .returned (.bool true) ∧ Ext w w' := by
  have hle := h.le
  have hmx := h.mx
  have HRt := Lib.hid (fun W (hW : Ext w W) => law16_right c hc a cap l W (h.ext hW))
  rw [hf] at HRt
  have hb := rtB_yes hf
  have HRB := Lib.hid hb
  have hrr := rightC_iff.1 hb.r
  obtain ⟨te1, te2, te3⟩ := tot_around hb
  obtain ⟨r, hrq⟩ : ∃ r, r = totQ c l := ⟨_, rfl⟩
  have HI := Lib.hid h
  have HT1 := Lib.hid (fun W (hW : Ext w W) => ((combine_Total c hc a cap l W (h.ext hW) (by have := hb.m; omega)).mono fun _ _ k => (by rw [hrq]; exact k.1 te1 : RatP r W _ _)))
  have HT2 := Lib.hid (fun W a2 cap2 (hW : Ints W a2 cap2 (around c l)) => ((combine_Total (turned c) (in_turned hc) a2 cap2 (around c l) W hW (by unfold around; rw [List.length_map]; have := hb.m; omega)).mono fun _ _ k => (by rw [hrq, ← te3]; exact k.1 te2 : RatP r W _ _)))
  clear hrq te1 te2 te3
  have HB1 := Lib.hid (fun m hm W => combine_Better c hc m hm W)
  have HB2 := Lib.hid (fun m hm W => combine_Better (turned c) (in_turned hc) m hm W)
  have HO := Lib.hid (fun m hm W => ref16_On c hc hrr m hm W)
  have HAR := Lib.hid (fun m (hm : m ∈ l) => on_around hrr (hb.on m hm))
  have HRC := Lib.hid hb.r
  have lo0 := hrr.lo
  have lo1 := hrr.hi
  have lo2 := hrr.mx
  have hp := hb.p
  have hm20 := hb.m
  obtain ⟨i0, hi0, hz0, hz1, hz2⟩ := info_parts infoI
  have HII := Lib.hid (And.intro hi0 (And.intro hz0 (And.intro hz1 hz2)))
  clear hi0 hz0 hz1 hz2
  obtain ⟨nm, lo, hi, st, how, tr, rv⟩ := c
  dsimp only [CritA.val, CritA.cells, turned] at *
  clear h hf hc hb hrr
  obtain ⟨x1, hw, hx, Kc⟩ := boxQ1 w #[.string nm, .int .i64 lo, .int .i64 hi, .int .i64 st, .int .i64 how, .int .i64 tr, .bool rv] 48
  replace hw := Lib.hid hw
  go_enter Try.func6, Try.ntmps6
  go_upto_region 1 with fail
  try simp only [Nat.add_assoc, Nat.reduceAdd, Nat.add_zero]
  rw [hw.out]
  clear hw
  have hs0 := hx.size
  have cc0 := Kc.out.cell (i := 0) (v := .string nm) rfl
  have cc1 := Kc.out.cell (i := 1) (v := .int .i64 lo) rfl
  have cc2 := Kc.out.cell (i := 2) (v := .int .i64 hi) rfl
  have cc3 := Kc.out.cell (i := 3) (v := .int .i64 st) rfl
  have cc4 := Kc.out.cell (i := 4) (v := .int .i64 how) rfl
  have cc5 := Kc.out.cell (i := 5) (v := .int .i64 tr) rfl
  have cc6 := Kc.out.cell (i := 6) (v := .bool rv) rfl
  go_wp2_with fail
  with_reducible refine (law16_sane _).mono ?_
  clear cc0 cc1 cc2 cc3 cc4 cc5 cc6
  rintro e x2 ⟨rfl, hy⟩
  replace hx := hx.trans hy
  replace Kc := kE Kc hy
  clear hy
  have cc0 := Kc.out.cell (i := 0) (v := .string nm) rfl
  have cc1 := Kc.out.cell (i := 1) (v := .int .i64 lo) rfl
  have cc2 := Kc.out.cell (i := 2) (v := .int .i64 hi) rfl
  have cc3 := Kc.out.cell (i := 3) (v := .int .i64 st) rfl
  have cc4 := Kc.out.cell (i := 4) (v := .int .i64 how) rfl
  have cc5 := Kc.out.cell (i := 5) (v := .int .i64 tr) rfl
  have cc6 := Kc.out.cell (i := 6) (v := .bool rv) rfl
  go_wp2_with fail
  with_reducible refine (HRt.out _ hx).mono ?_
  clear cc0 cc1 cc2 cc3 cc4 cc5 cc6
  rintro e x3 ⟨rfl, hy⟩
  replace hx := hx.trans hy
  replace Kc := kE Kc hy
  clear hy
  clear HRt
  have cc0 := Kc.out.cell (i := 0) (v := .string nm) rfl
  have cc1 := Kc.out.cell (i := 1) (v := .int .i64 lo) rfl
  have cc2 := Kc.out.cell (i := 2) (v := .int .i64 hi) rfl
  have cc3 := Kc.out.cell (i := 3) (v := .int .i64 st) rfl
  have cc4 := Kc.out.cell (i := 4) (v := .int .i64 how) rfl
  have cc5 := Kc.out.cell (i := 5) (v := .int .i64 tr) rfl
  have cc6 := Kc.out.cell (i := 6) (v := .bool rv) rfl
  have hcl := (kE Kc (Ext.alloc x3 (.cells #[.string nm, .int .i64 lo, .int .i64 hi, .int .i64 st, .int .i64 how, .int .i64 tr, .bool rv] 48))).out.cell (i := 6) (v := .bool rv) rfl
  go_upto_region 7 with fail
  have hl := Ext.alloc x3 (.cells #[.string nm, .int .i64 lo, .int .i64 hi, .int .i64 st, .int .i64 how, .int .i64 tr, .bool (!rv)] 48)
  have lcd : w.heap.size < x3.heap.size := Kc.out.lt
  have hpd : w.heap.size ≤ x3.heap.size := hx.size
  clear cc0 cc1 cc2 cc3 cc4 cc5 cc6 hcl
  replace hx := hx.trans hl
  replace Kc := kE Kc hl
  have Kd := Lib.hid (Blk.new0 x3 #[.string nm, .int .i64 lo, .int .i64 hi, .int .i64 st, .int .i64 how, .int .i64 tr, .bool (!rv)] 48)
  clear hl
  generalize x3.alloc (.cells #[.string nm, .int .i64 lo, .int .i64 hi, .int .i64 st, .int .i64 how, .int .i64 tr, .bool (!rv)] 48) = x4 at *
  generalize x3.heap.size = pd at *
  have cc0 := Kc.out.cell (i := 0) (v := .string nm) rfl
  have cc1 := Kc.out.cell (i := 1) (v := .int .i64 lo) rfl
  have cc2 := Kc.out.cell (i := 2) (v := .int .i64 hi) rfl
  have cc3 := Kc.out.cell (i := 3) (v := .int .i64 st) rfl
  have cc4 := Kc.out.cell (i := 4) (v := .int .i64 how) rfl
  have cc5 := Kc.out.cell (i := 5) (v := .int .i64 tr) rfl
  have cc6 := Kc.out.cell (i := 6) (v := .bool rv) rfl
  have cd0 := Kd.out.cell (i := 0) (v := .string nm) rfl
  have cd1 := Kd.out.cell (i := 1) (v := .int .i64 lo) rfl
  have cd2 := Kd.out.cell (i := 2) (v := .int .i64 hi) rfl
  have cd3 := Kd.out.cell (i := 3) (v := .int .i64 st) rfl
  have cd4 := Kd.out.cell (i := 4) (v := .int .i64 how) rfl
  have cd5 := Kd.out.cell (i := 5) (v := .int .i64 tr) rfl
  have cd6 := Kd.out.cell (i := 6) (v := .bool (!rv)) rfl
  go_wp2_with fail
  clear cc0 cc1 cc2 cc3 cc4 cc5 cc6 cd0 cd1 cd2 cd3 cd4 cd5 cd6
  have hcb : w.heap.size < Array.size (World.heap x4) := Kc.out.lt
  have hdb : pd < Array.size (World.heap x4) := Kd.out.lt
  have HX := Lib.hid hx
  have HKc := Kc
  have HKd := Kd
  obtain ⟨g0, hg0⟩ : ∃ g0, g0 = Array.size (World.heap x4) := ⟨_, rfl⟩
  go_loopw [6, 30] (fun v i wr => ∃ k : Nat, k ≤ l.length ∧ i = .int .i64 k ∧ ows wr g0 v ((around (⟨nm, lo, hi, st, how, tr, rv⟩ : CritA) l).take k) ∧ Ext x4 wr) (fun _ i _ => l.length - (intOf i).toNat)
  case atStart => exact ⟨0, Nat.zero_le _, rfl, World.ownsRow_nil _ _ _ _, Ext.refl _⟩
  case round =>
    obtain ⟨k, hk, rfl, how0, hxr⟩ := hrel
    have HOW := Lib.hid how0
    have HXr := Lib.hid hxr
    have g1 : (0 : Int) ≤ (k : Int) := by omega
    have hg1 : g0 ≤ Array.size (World.heap wr) := by rw [hg0]; exact hxr.size
    clear how0 hx Kc Kd
    by_cases hlt : k < l.length
    · have hx := HX.out.trans hxr
      have Kc := kE HKc hxr
      have Kd := kE HKd hxr
      obtain ⟨b, o, rfl⟩ := HI.out.head hlt
      obtain ⟨x, hxk, hcx, hx1, hx2⟩ := Ints.get (HI.out.ext hx) hlt
      have HXK := Lib.hid hxk
      have hmem := List.mem_of_getElem? hxk
      have HON := Lib.hid (HRB.out.on x hmem)
      obtain ⟨xl, xh, _⟩ := onC_iff.1 HON.out
      have HARx := Lib.hid (HAR.out x hmem)
      have g2 : (k : Int) < (l.length : Int) := by omega
      have htk : (around (⟨nm, lo, hi, st, how, tr, rv⟩ : CritA) l).take (k + 1) = (around (⟨nm, lo, hi, st, how, tr, rv⟩ : CritA) l).take k ++ [lo + hi - x] := take_getQ (by unfold around; rw [List.getElem?_map, hxk]; rfl)
      have htl : ((around (⟨nm, lo, hi, st, how, tr, rv⟩ : CritA) l).take k).length = k := by unfold around; rw [List.length_take, List.length_map]; omega
      have HTK := Lib.hid htk
      have HTL := Lib.hid htl
      dsimp only at xl xh
      clear hxk hmem htk htl
      have cc0 := Kc.out.cell (i := 0) (v := .string nm) rfl
      have cc1 := Kc.out.cell (i := 1) (v := .int .i64 lo) rfl
      have cc2 := Kc.out.cell (i := 2) (v := .int .i64 hi) rfl
      have cc3 := Kc.out.cell (i := 3) (v := .int .i64 st) rfl
      have cc4 := Kc.out.cell (i := 4) (v := .int .i64 how) rfl
      have cc5 := Kc.out.cell (i := 5) (v := .int .i64 tr) rfl
      have cc6 := Kc.out.cell (i := 6) (v := .bool rv) rfl
      have cd0 := Kd.out.cell (i := 0) (v := .string nm) rfl
      have cd1 := Kd.out.cell (i := 1) (v := .int .i64 lo) rfl
      have cd2 := Kd.out.cell (i := 2) (v := .int .i64 hi) rfl
      have cd3 := Kd.out.cell (i := 3) (v := .int .i64 st) rfl
      have cd4 := Kd.out.cell (i := 4) (v := .int .i64 how) rfl
      have cd5 := Kd.out.cell (i := 5) (v := .int .i64 tr) rfl
      have cd6 := Kd.out.cell (i := 6) (v := .bool (!rv)) rfl
      obtain ⟨hi0, hz0, hz1, hz2⟩ := HII.out
      go_upto_region 12 with (first
        | (at_builtin; refine wpList_append_own_at _ rfl _ _ 27 rfl g0 3 i0 (.int .i64 0) 1 8 Try.underlying27 hi0 hz0 hz1 hz2 rfl (by decide) _ _ _ rfl (HOW.out.alloc _) ⟨Array.size (World.heap wr), 0, none⟩ 1 1 [.int .i64 (lo + hi - x)] rfl rfl (cell_one_new _ _ _) (by simp [Value.oneCell']) (by have := HTL.out; unfold maxLen; omega) (by have := HTL.out; omega) (by simp; omega) ?_; intro v' w3 hown' hg3 hnil3 hat3))
      clear cc0 cc1 cc2 cc3 cc4 cc5 cc6 cd0 cd1 cd2 cd3 cd4 cd5 cd6
      clear hi0 hz0 hz1 hz2 hcx
      have hx3 : Ext x4 w3 := Below.grown (hxr.alloc' (.cells #[.int .i64 (lo + hi - x)] 3)) hg3 (by have := hxr.size; simp; omega) (fun k e => by have := ((HOW.out.alloc (.cells #[.int .i64 (lo + hi - x)] 3)).lt k e).1; omega)
      have HOW3 : Hid (OwS w3 g0 v' ((around (⟨nm, lo, hi, st, how, tr, rv⟩ : CritA) l).take (k + 1))) := Lib.hid ⟨by rw [HTK.out]; unfold ows; simpa using hown'⟩
      have HXR : Hid (ExS x4 w3) := Lib.hid ⟨hx3⟩
      replace hx := HX.out.trans hx3
      replace Kc := kE HKc hx3
      replace Kd := kE HKd hx3
      clear hg3 hnil3 hat3 hown' HOW hx3 hxr HXr hg1 HTK HTL
      have HB1x := Lib.hid (HB1.out x ⟨hx1, hx2⟩)
      have HB2x := Lib.hid (HB2.out x ⟨hx1, hx2⟩)
      have eb1 : betterC (⟨nm, lo, hi, st, how, tr, rv⟩ : CritA) x = (turnC (⟨nm, lo, hi, st, how, tr, rv⟩ : CritA) x, 0) := by unfold betterC; rw [HRC.out, HON.out]; rfl
      have eb2 : betterC (⟨nm, lo, hi, st, how, tr, !rv⟩ : CritA) x = (turnC (⟨nm, lo, hi, st, how, tr, !rv⟩ : CritA) x, 0) := by
        unfold betterC
        rw [show rightC (⟨nm, lo, hi, st, how, tr, !rv⟩ : CritA) = true from HRC.out, show onC (⟨nm, lo, hi, st, how, tr, !rv⟩ : CritA) x = true from HON.out]; rfl
      rw [eb1] at HB1x
      rw [eb2] at HB2x
      clear eb1 eb2
      obtain ⟨-, -, -, es, eo⟩ := HARx.out
      have td1 := turn_bd (rightC_iff.1 HRC.out) HON.out
      have HOa := Lib.hid (HO.out (turnC (⟨nm, lo, hi, st, how, tr, rv⟩ : CritA) x) (by unfold In64; omega))
      rw [eo] at HOa
      have HRCd : rightC (⟨nm, lo, hi, st, how, tr, !rv⟩ : CritA) = true := HRC.out
      have td2 := turn_bd (rightC_iff.1 HRCd) (x := x) HON.out
      clear HRCd eo HARx
      try dsimp only at es
      generalize turnC (⟨nm, lo, hi, st, how, tr, rv⟩ : CritA) x = u at *
      generalize turnC (⟨nm, lo, hi, st, how, tr, !rv⟩ : CritA) x = v at *
      obtain rfl : v = lo + hi - u := by omega
      clear es
      have cc0 := Kc.out.cell (i := 0) (v := .string nm) rfl
      have cc1 := Kc.out.cell (i := 1) (v := .int .i64 lo) rfl
      have cc2 := Kc.out.cell (i := 2) (v := .int .i64 hi) rfl
      have cc3 := Kc.out.cell (i := 3) (v := .int .i64 st) rfl
      have cc4 := Kc.out.cell (i := 4) (v := .int .i64 how) rfl
      have cc5 := Kc.out.cell (i := 5) (v := .int .i64 tr) rfl
      have cc6 := Kc.out.cell (i := 6) (v := .bool rv) rfl
      have cd0 := Kd.out.cell (i := 0) (v := .string nm) rfl
      have cd1 := Kd.out.cell (i := 1) (v := .int .i64 lo) rfl
      have cd2 := Kd.out.cell (i := 2) (v := .int .i64 hi) rfl
      have cd3 := Kd.out.cell (i := 3) (v := .int .i64 st) rfl
      have cd4 := Kd.out.cell (i := 4) (v := .int .i64 how) rfl
      have cd5 := Kd.out.cell (i := 5) (v := .int .i64 tr) rfl
      have cd6 := Kd.out.cell (i := 6) (v := .bool (!rv)) rfl
      go_wp2_with fail
      with_reducible refine (HB1x.out _).mono ?_
      clear cc0 cc1 cc2 cc3 cc4 cc5 cc6 cd0 cd1 cd2 cd3 cd4 cd5 cd6
      rintro e x5 ⟨rfl, hy⟩
      replace hx := hx.trans hy
      replace Kc := kE Kc hy
      replace Kd := kE Kd hy
      replace HOW3 := Lib.hid (HOW3.out.ext hy)
      replace HXR := Lib.hid (HXR.out.ext hy)
      clear hy
      have cc0 := Kc.out.cell (i := 0) (v := .string nm) rfl
      have cc1 := Kc.out.cell (i := 1) (v := .int .i64 lo) rfl
      have cc2 := Kc.out.cell (i := 2) (v := .int .i64 hi) rfl
      have cc3 := Kc.out.cell (i := 3) (v := .int .i64 st) rfl
      have cc4 := Kc.out.cell (i := 4) (v := .int .i64 how) rfl
      have cc5 := Kc.out.cell (i := 5) (v := .int .i64 tr) rfl
      have cc6 := Kc.out.cell (i := 6) (v := .bool rv) rfl
      have cd0 := Kd.out.cell (i := 0) (v := .string nm) rfl
      have cd1 := Kd.out.cell (i := 1) (v := .int .i64 lo) rfl
      have cd2 := Kd.out.cell (i := 2) (v := .int .i64 hi) rfl
      have cd3 := Kd.out.cell (i := 3) (v := .int .i64 st) rfl
      have cd4 := Kd.out.cell (i := 4) (v := .int .i64 how) rfl
      have cd5 := Kd.out.cell (i := 5) (v := .int .i64 tr) rfl
      have cd6 := Kd.out.cell (i := 6) (v := .bool (!rv)) rfl
      go_wp2_with fail
      with_reducible refine (HB2x.out _).mono ?_
      clear cc0 cc1 cc2 cc3 cc4 cc5 cc6 cd0 cd1 cd2 cd3 cd4 cd5 cd6
      rintro e x6 ⟨rfl, hy⟩
      replace hx := hx.trans hy
      replace Kc := kE Kc hy
      replace Kd := kE Kd hy
      replace HOW3 := Lib.hid (HOW3.out.ext hy)
      replace HXR := Lib.hid (HXR.out.ext hy)
      clear hy
      have eq1 : (u + (lo + hi - u) == lo + hi) = true := by simp; omega
      have eq2 : u + (lo + hi - u) = lo + hi := by omega
      have cc0 := Kc.out.cell (i := 0) (v := .string nm) rfl
      have cc1 := Kc.out.cell (i := 1) (v := .int .i64 lo) rfl
      have cc2 := Kc.out.cell (i := 2) (v := .int .i64 hi) rfl
      have cc3 := Kc.out.cell (i := 3) (v := .int .i64 st) rfl
      have cc4 := Kc.out.cell (i := 4) (v := .int .i64 how) rfl
      have cc5 := Kc.out.cell (i := 5) (v := .int .i64 tr) rfl
      have cc6 := Kc.out.cell (i := 6) (v := .bool rv) rfl
      have cd0 := Kd.out.cell (i := 0) (v := .string nm) rfl
      have cd1 := Kd.out.cell (i := 1) (v := .int .i64 lo) rfl
      have cd2 := Kd.out.cell (i := 2) (v := .int .i64 hi) rfl
      have cd3 := Kd.out.cell (i := 3) (v := .int .i64 st) rfl
      have cd4 := Kd.out.cell (i := 4) (v := .int .i64 how) rfl
      have cd5 := Kd.out.cell (i := 5) (v := .int .i64 tr) rfl
      have cd6 := Kd.out.cell (i := 6) (v := .bool (!rv)) rfl
      go_wp2_with fail
      with_reducible refine (HOa.out _).mono ?_
      clear cc0 cc1 cc2 cc3 cc4 cc5 cc6 cd0 cd1 cd2 cd3 cd4 cd5 cd6
      rintro e x7 ⟨rfl, hy⟩
      replace hx := hx.trans hy
      replace Kc := kE Kc hy
      replace Kd := kE Kd hy
      replace HOW3 := Lib.hid (HOW3.out.ext hy)
      replace HXR := Lib.hid (HXR.out.ext hy)
      clear hy
      go_wp2_with fail
      go_roundw
      case rel => exact ⟨k + 1, by omega, by go_num, HOW3.out.h, HXR.out.h⟩
      case measure => simp [intOf]; omega
    · obtain rfl : k = l.length := by omega
      have hx := HX.out.trans hxr
      have Kc := kE HKc hxr
      have Kd := kE HKd hxr
      have hlr : (around (⟨nm, lo, hi, st, how, tr, rv⟩ : CritA) l).take l.length = around (⟨nm, lo, hi, st, how, tr, rv⟩ : CritA) l := List.take_of_length_le (by unfold around; rw [List.length_map]; exact Nat.le_refl _)
      have how1 := HOW.out
      rw [hlr] at how1
      obtain ⟨al, cl, rfl, hIl, hal⟩ := ints_of_owns how1 (fun y hy => by
        obtain ⟨m, hm, rfl⟩ := List.mem_map.1 hy
        have := HAR.out m hm
        have := onC_iff.1 this.2.1
        dsimp only at this
        dsimp only
        omega)
      have VL := Lib.hid hIl
      clear how1 hIl hal HOW hlr hxr HXr hlt
      have cc0 := Kc.out.cell (i := 0) (v := .string nm) rfl
      have cc1 := Kc.out.cell (i := 1) (v := .int .i64 lo) rfl
      have cc2 := Kc.out.cell (i := 2) (v := .int .i64 hi) rfl
      have cc3 := Kc.out.cell (i := 3) (v := .int .i64 st) rfl
      have cc4 := Kc.out.cell (i := 4) (v := .int .i64 how) rfl
      have cc5 := Kc.out.cell (i := 5) (v := .int .i64 tr) rfl
      have cc6 := Kc.out.cell (i := 6) (v := .bool rv) rfl
      have cd0 := Kd.out.cell (i := 0) (v := .string nm) rfl
      have cd1 := Kd.out.cell (i := 1) (v := .int .i64 lo) rfl
      have cd2 := Kd.out.cell (i := 2) (v := .int .i64 hi) rfl
      have cd3 := Kd.out.cell (i := 3) (v := .int .i64 st) rfl
      have cd4 := Kd.out.cell (i := 4) (v := .int .i64 how) rfl
      have cd5 := Kd.out.cell (i := 5) (v := .int .i64 tr) rfl
      have cd6 := Kd.out.cell (i := 6) (v := .bool (!rv)) rfl
      have hsz := hx.size
      go_wp2_with fail
      clear cc0 cc1 cc2 cc3 cc4 cc5 cc6 cd0 cd1 cd2 cd3 cd4 cd5 cd6
      with_reducible refine (HT1.out _ hx).mono ?_
      rintro e x5 ⟨v, rfl, hv, hy⟩
      replace hx := hx.trans hy
      replace Kc := kE Kc hy
      replace Kd := kE Kd hy
      replace VL := Lib.hid (VL.out.ext hy)
      clear hy
      obtain ⟨nx, ax, qx, cx, bx, kx, dx, rfl, hv', hf', hg'⟩ := hv
      have Vx := Lib.hid hv'
      have Fx := Lib.hid (fun A hA => Nat.le_trans hsz (hf' A hA))
      have Gx := Lib.hid (fun A hA => Nat.le_trans hsz (hg' A hA))
      clear hv' hf' hg' hsz
      clear Fx Gx
      go_upto_region 18 with fail
      have hl := Ext.alloc x5 (.cells #[.bool nx, .slice ax qx cx, .bool false, .slice bx kx dx] 35)
      have lcx : w.heap.size < x5.heap.size := Kc.out.lt
      have ldx : pd < x5.heap.size := Kd.out.lt
      have hpx : w.heap.size ≤ x5.heap.size := hx.size
      replace hx := hx.trans hl
      replace Kc := kE Kc hl
      replace Kd := kE Kd hl
      replace VL := Lib.hid (VL.out.ext hl)
      replace Vx := Lib.hid (Vx.out.ext hl)
      have Kx := Lib.hid (Blk.new0 x5 #[.bool nx, .slice ax qx cx, .bool false, .slice bx kx dx] 35)
      clear hl
      generalize x5.alloc (.cells #[.bool nx, .slice ax qx cx, .bool false, .slice bx kx dx] 35) = x6 at *
      generalize x5.heap.size = px at *
      have cc0 := Kc.out.cell (i := 0) (v := .string nm) rfl
      have cc1 := Kc.out.cell (i := 1) (v := .int .i64 lo) rfl
      have cc2 := Kc.out.cell (i := 2) (v := .int .i64 hi) rfl
      have cc3 := Kc.out.cell (i := 3) (v := .int .i64 st) rfl
      have cc4 := Kc.out.cell (i := 4) (v := .int .i64 how) rfl
      have cc5 := Kc.out.cell (i := 5) (v := .int .i64 tr) rfl
      have cc6 := Kc.out.cell (i := 6) (v := .bool rv) rfl
      have cd0 := Kd.out.cell (i := 0) (v := .string nm) rfl
      have cd1 := Kd.out.cell (i := 1) (v := .int .i64 lo) rfl
      have cd2 := Kd.out.cell (i := 2) (v := .int .i64 hi) rfl
      have cd3 := Kd.out.cell (i := 3) (v := .int .i64 st) rfl
      have cd4 := Kd.out.cell (i := 4) (v := .int .i64 how) rfl
      have cd5 := Kd.out.cell (i := 5) (v := .int .i64 tr) rfl
      have cd6 := Kd.out.cell (i := 6) (v := .bool (!rv)) rfl
      obtain ⟨cx0, cx1, cx2, cx3⟩ := bk4 Kx
      have hsz := hx.size
      go_wp2_with fail
      clear cc0 cc1 cc2 cc3 cc4 cc5 cc6 cd0 cd1 cd2 cd3 cd4 cd5 cd6 cx0 cx1 cx2 cx3
      with_reducible refine (HT2.out _ _ _ VL.out).mono ?_
      rintro e x7 ⟨v, rfl, hv, hy⟩
      replace hx := hx.trans hy
      replace Kc := kE Kc hy
      replace Kd := kE Kd hy
      replace Kx := kE Kx hy
      replace VL := Lib.hid (VL.out.ext hy)
      replace Vx := Lib.hid (Vx.out.ext hy)
      clear hy
      obtain ⟨ny, ay, qy, cy, by_, ky, dy, rfl, hv', hf', hg'⟩ := hv
      have Vy := Lib.hid hv'
      have Fy := Lib.hid (fun A hA => Nat.le_trans hsz (hf' A hA))
      have Gy := Lib.hid (fun A hA => Nat.le_trans hsz (hg' A hA))
      clear hv' hf' hg' hsz
      clear Fy Gy
      go_upto_region 19 with fail
      have hl := Ext.alloc x7 (.cells #[.bool ny, .slice ay qy cy, .bool false, .slice by_ ky dy] 35)
      have lcy : w.heap.size < x7.heap.size := Kc.out.lt
      have ldy : pd < x7.heap.size := Kd.out.lt
      have lxy : px < x7.heap.size := Kx.out.lt
      have hpy : w.heap.size ≤ x7.heap.size := hx.size
      replace hx := hx.trans hl
      replace Kc := kE Kc hl
      replace Kd := kE Kd hl
      replace Kx := kE Kx hl
      replace VL := Lib.hid (VL.out.ext hl)
      replace Vx := Lib.hid (Vx.out.ext hl)
      replace Vy := Lib.hid (Vy.out.ext hl)
      have Ky := Lib.hid (Blk.new0 x7 #[.bool ny, .slice ay qy cy, .bool false, .slice by_ ky dy] 35)
      clear hl
      generalize x7.alloc (.cells #[.bool ny, .slice ay qy cy, .bool false, .slice by_ ky dy] 35) = x8 at *
      generalize x7.heap.size = py at *
      have cc0 := Kc.out.cell (i := 0) (v := .string nm) rfl
      have cc1 := Kc.out.cell (i := 1) (v := .int .i64 lo) rfl
      have cc2 := Kc.out.cell (i := 2) (v := .int .i64 hi) rfl
      have cc3 := Kc.out.cell (i := 3) (v := .int .i64 st) rfl
      have cc4 := Kc.out.cell (i := 4) (v := .int .i64 how) rfl
      have cc5 := Kc.out.cell (i := 5) (v := .int .i64 tr) rfl
      have cc6 := Kc.out.cell (i := 6) (v := .bool rv) rfl
      have cd0 := Kd.out.cell (i := 0) (v := .string nm) rfl
      have cd1 := Kd.out.cell (i := 1) (v := .int .i64 lo) rfl
      have cd2 := Kd.out.cell (i := 2) (v := .int .i64 hi) rfl
      have cd3 := Kd.out.cell (i := 3) (v := .int .i64 st) rfl
      have cd4 := Kd.out.cell (i := 4) (v := .int .i64 how) rfl
      have cd5 := Kd.out.cell (i := 5) (v := .int .i64 tr) rfl
      have cd6 := Kd.out.cell (i := 6) (v := .bool (!rv)) rfl
      obtain ⟨cx0, cx1, cx2, cx3⟩ := bk4 Kx
      obtain ⟨cy0, cy1, cy2, cy3⟩ := bk4 Ky
      go_wp2_with fail
      with_reducible refine ((same_rat Vx.out Vy.out)).mono ?_
      clear cc0 cc1 cc2 cc3 cc4 cc5 cc6 cd0 cd1 cd2 cd3 cd4 cd5 cd6 cx0 cx1 cx2 cx3 cy0 cy1 cy2 cy3
      rintro e x9 ⟨rfl, hy⟩
      replace hx := hx.trans hy
      replace Kc := kE Kc hy
      replace Kd := kE Kd hy
      replace Kx := kE Kx hy
      replace Ky := kE Ky hy
      replace VL := Lib.hid (VL.out.ext hy)
      replace Vx := Lib.hid (Vx.out.ext hy)
      replace Vy := Lib.hid (Vy.out.ext hy)
      clear hy
      simp only [decide_true]
      go_wp2_with fail
      go_ret
      exact ⟨rfl, hx⟩
theorem law_CTurn (c : CritA) (a : Option Addr) (cap : Nat) (l : List Int) (w : World) (hc : c.In) (h : Ints w a cap l) : Calls Try.prog 6 #[c.val, .slice a l.length cap] w fun e w' => e = .returned (.bool true) ∧ Ext w w' := by
  cases hf : rtB c l
  · exact law_CTurn_no c hc a cap l w h hf
  · exact law_CTurn_ok c hc a cap l w h hf
end Go.Proofs.Ytmcbbhlglccmgaa

namespace Go.Proofs.Ytmcbbhlglccmgaa
open Go.ChangeShapes Go.WideShapes Go.ChangeAt Go.RowKit
set_option linter.unusedVariables false
set_option maxRecDepth 100000

theorem ownCombineTurned : ownKnob Try.prog.godebug = none := by kernel_rfl
theorem laidOutCombineTurned : laidOutB Try.prog = true := by kernel_rfl

theorem liftedCombineTurned (os : Os) (started : os.Started) (H : Type) (enc : TypeId × Value → H) :
    ReturnsInHanded {} Try.checked os 6 .any (Rows.combineTurnedSpec.pre6 enc Try.prog Try.f6 Rows.combineTurnedRow.domain false) (Rows.combineTurnedSpec.post enc Try.prog Try.f6 false true false false) := by
  refine returnsInHanded_of_change (C := Try.checked) ownCombineTurned started (by kernel_rfl) Try.func6
    (ChangeSpec.witness6 (enc := enc) (C := Try.checked) false ⟨#[], #[.agg #[.string ⟨#[]⟩, .int .i64 0, .int .i64 0, .int .i64 0, .int .i64 0, .int .i64 0, .bool false], .slice none 0 0], []⟩ 8 (by kernel_rfl) (by kernel_rfl) (by kernel_rfl) (by kernel_rfl)) ?_
  intro W base args ds gs before hval0 hW hcnd _
  have hval : ∀ (j : Nat) t v, Try.f6.params[j]? = some t → args[j]? = some v → Value.okWide Try.prog W .any base t v := hval0
  have hW' := hW
  obtain ⟨p, q, hA0, hV, rfl, hfz, hnd⟩ := hW
  have hA : DataW.TrodAll enc Try.prog W 0 (fun _ => true) true Try.f6.params.toList args.toList ds p := hA0
  rw [Try.params6] at hA hval
  obtain ⟨v0, vs0, d0, ds0, p0, q0, hargs, rfl, rfl, h0, r0⟩ := trodAll_cons hA
  obtain ⟨v1, vs1, d1, ds1, p1, q1, rfl, rfl, rfl, h1, r1⟩ := trodAll_cons r0
  obtain ⟨rfl, rfl, rfl⟩ := trodAll_nil r1
  obtain rfl : args = #[v0, v1] := by cases args; simp_all
  obtain ⟨rfl, rfl⟩ := trodVars_none hV
  have k0 := h0
  have lt0 : ∀ x ∈ p0, x.block < W.heap.size := by obtain ⟨m, hm⟩ := k0; exact DataW.trod_lt m _ _ _ hm
  have k1 := h1
  have lt1 : ∀ x ∈ p1, x.block < W.heap.size := by obtain ⟨m, hm⟩ := k1; exact DataW.trod_lt m _ _ _ hm
  obtain ⟨c0, rfl, w0⟩ := open_crit (hval 0 48 v0 rfl rfl) h0
  obtain ⟨a1, cap1, l1, rfl, w1⟩ := open_ints1 (hval 1 27 v1 rfl rfl) h1
  clear hA0 hval0
  refine (law_CTurn c0 a1 cap1 l1 W w0 w1).mono fun e W' ⟨he, bel⟩ => ?_
  subst he
  exact ⟨_, rfl, _, _, _, [], _, [], hW', trodAll_mk1 (shut_bool Try.underlying4 _), (trodAll_cons_mk (Below.trod laidOutCombineTurned (by kernel_rfl) (of_decide_eq_true (by kernel_rfl)) k0 bel lt0) (trodAll_cons_mk (Below.trod laidOutCombineTurned (by kernel_rfl) (of_decide_eq_true (by kernel_rfl)) k1 bel lt1) trodAll_mk0)), rfl, bel.frame _, fun h => by cases h⟩

theorem combineTurned_holds : Rows.CombineTurnedSaid :=
  OpenClaim.holds_of_wide 6 Try.f6 rfl rfl rfl rfl rfl rfl rfl ⟨rfl, rfl, rfl, rfl, rfl⟩ rfl rfl rfl rfl rfl (by kernel_rfl) Try.func6 (by kernel_rfl)
    (of_decide_eq_true (by kernel_rfl)) (by unfold Func.isWrapper; rw [if_neg (of_decide_eq_false (by kernel_rfl))]; exact ⟨rfl, rfl⟩)
    (fun os started H enc _ => liftedCombineTurned os started H enc)

#print axioms combineTurned_holds
end Go.Proofs.Ytmcbbhlglccmgaa

