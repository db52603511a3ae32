import Derived.Test.YtmcbbhlglccmgaaQ0
namespace Go.Proofs.Ytmcbbhlglccmgaa
open Go.RowKit Go BigFrame
set_option maxRecDepth 100000
set_option linter.unusedSimpArgs false
set_option linter.unusedVariables false

/-! Criteria: what is right, on the scale, better (combine and its reference). -/
structure CritA where
  nm : ByteArray
  lo : Int
  hi : Int
  st : Int
  how : Int
  tr : Int
  rv : Bool
abbrev CritA.cells (c : CritA) : Array Value := #[.string c.nm, .int .i64 c.lo, .int .i64 c.hi, .int .i64 c.st, .int .i64 c.how, .int .i64 c.tr, .bool c.rv]
abbrev CritA.val (c : CritA) : Value := .agg c.cells
def In64 (n : Int) : Prop := -9223372036854775808 ≤ n ∧ n ≤ 9223372036854775807
structure CritA.In (c : CritA) : Prop where
  lo : In64 c.lo
  hi : In64 c.hi
  st : In64 c.st
  how : In64 c.how
  tr : In64 c.tr
/-- A right criterion. -/
def rightC (c : CritA) : Bool := decide (0 ≤ c.lo) && (decide (c.lo < c.hi) && (decide (c.hi ≤ 1000) && (decide (1 ≤ c.st) && (decide (0 ≤ c.tr) && (decide (c.tr ≤ 127) && ((decide (c.how = 2) || decide (c.tr = 0)) && ((decide (c.how = 1) || (decide (c.how = 2) || decide (c.how = 3))) && decide ((c.hi - c.lo) % c.st = 0))))))))
structure RightC (c : CritA) : Prop where
  lo : 0 ≤ c.lo
  hi : c.lo < c.hi
  mx : c.hi ≤ 1000
  st : 1 ≤ c.st
  tr : 0 ≤ c.tr
  tm : c.tr ≤ 127
  mn : c.how = 2 ∨ c.tr = 0
  how : c.how = 1 ∨ c.how = 2 ∨ c.how = 3
  dv : (c.hi - c.lo) % c.st = 0
theorem rightC_iff {c : CritA} : rightC c = true ↔ RightC c := by
  simp only [rightC, Bool.and_eq_true, Bool.or_eq_true, decide_eq_true_eq]
  exact ⟨fun ⟨a, b, d, e, f, g, h, i, j⟩ => ⟨a, b, d, e, f, g, h, i, j⟩, fun h => ⟨h.lo, h.hi, h.mx, h.st, h.tr, h.tm, h.mn, h.how, h.dv⟩⟩
def onC (c : CritA) (m : Int) : Bool := decide (c.lo ≤ m) && (decide (m ≤ c.hi) && decide ((m - c.lo) % c.st = 0))
def turnC (c : CritA) (m : Int) : Int := if c.rv then c.lo + c.hi - m else m
theorem emod_tmod {a b : Int} (ha : 0 ≤ a) : a.tmod b = a % b := Int.tmod_eq_emod_of_nonneg ha

set_option maxHeartbeats 1000000 in
theorem slices_IndexI (b o : Nat) (cap : Nat) (l : List Int) (x : Int) (w : World) (h : Ints w (some ⟨b, o, none⟩) cap l) :
    Calls Try.prog 116 #[.slice (some ⟨b, o, none⟩) l.length cap, .int .i64 x] w fun e w' => (∃ k : Int, e = .returned (.int .i64 k) ∧ (0 ≤ k ↔ x ∈ l)) ∧ w = w' := by
  have hle := h.le
  have hmx := h.mx
  go_enter Try.func116, Try.ntmps116
  go_wp2
  go_loop [8] (fun i => ∃ k : Nat, k ≤ l.length ∧ i = .int .i64 k ∧ x ∉ l.take k) (fun i => l.length - (intOf i).toNat)
  case atStart => exact ⟨0, Nat.zero_le _, rfl, by simp⟩
  case round =>
    obtain ⟨k, hk, rfl, hn⟩ := hrel
    have HN := Lib.hid hn
    clear hn
    by_cases hlt : k < l.length
    · obtain ⟨y, hy, hc, hy1, hy2⟩ := Ints.get h hlt
      have ht : l.take (k + 1) = l.take k ++ [y] := by rw [List.take_add_one, hy]; rfl
      have HT := Lib.hid ht
      have HY := Lib.hid (List.mem_of_getElem? hy)
      clear ht hy
      have g1 : (0 : Int) ≤ (k : Int) := by omega
      have g2 : (k : Int) < (l.length : Int) := by omega
      by_cases hxy : x = y
      · subst hxy
        go_wp2
        go_ret
        exact ⟨⟨_, rfl, by simp [HY.out]; try omega⟩, rfl⟩
      · go_wp2
        go_round
        case rel => exact ⟨k + 1, by omega, by go_num, by rw [HT.out]; simp [HN.out, hxy]⟩
        case measure => simp [intOf]; omega
    · obtain rfl : k = l.length := by omega
      go_wp2
      go_ret
      have := HN.out
      rw [List.take_length] at this
      exact ⟨⟨_, rfl, by simp [this]⟩, rfl⟩
theorem slices_ContainsI (b o : Nat) (cap : Nat) (l : List Int) (x : Int) (r : Bool) (hr : decide (x ∈ l) = r) (w : World) (h : Ints w (some ⟨b, o, none⟩) cap l) :
    Calls Try.prog 95 #[.slice (some ⟨b, o, none⟩) l.length cap, .int .i64 x] w fun e w' => e = .returned (.bool r) ∧ w = w' := by
  have H := Lib.hid (slices_IndexI b o cap l x w h)
  go_enter Try.func95, Try.ntmps95
  go_wp2_with fail
  refine H.out.mono ?_
  rintro e w1 ⟨⟨k, rfl, hk⟩, rfl⟩
  by_cases hm : x ∈ l
  · have h1 : 0 ≤ k := hk.2 hm
    obtain rfl : r = true := by rw [← hr, decide_eq_true hm]
    clear hk hm hr
    go_wp2
    go_ret
    exact ⟨rfl, rfl⟩
  · have h1 : ¬ 0 ≤ k := mt hk.1 hm
    have h2 : decide (0 ≤ k) = false := decide_eq_false h1
    obtain rfl : r = false := by rw [← hr, decide_eq_false hm]
    clear hk hm hr h1
    go_wp2
    go_ret
    exact ⟨by simp [h2], rfl⟩
theorem ints3 {w : World} {g : Nat} {a b c : Int} {t : TypeId} (h : Blk w g #[.int .i64 a, .int .i64 b, .int .i64 c] t) (ha : In64 a) (hb : In64 b) (hc : In64 c) : Ints w (some ⟨g, 0, none⟩) 3 [a, b, c] :=
  ⟨by simp, by omega, (by simp), fun A hA i hi => by
    cases hA
    simp only [List.length_cons, List.length_nil] at hi
    match i, hi with
    | 0, _ => exact ⟨rfl, _, h.cell (i := 0) rfl, rfl, ha.1, ha.2⟩
    | 1, _ => exact ⟨rfl, _, h.cell (i := 1) rfl, rfl, hb.1, hb.2⟩
    | 2, _ => exact ⟨rfl, _, h.cell (i := 2) rfl, rfl, hc.1, hc.2⟩⟩
/-! What is right. -/
set_option maxHeartbeats 2000000 in
theorem combine_right (c : CritA) (hc : c.In) (w : World) : Calls Try.prog 52 #[c.val] w fun e w' => e = .returned (.bool (rightC c)) ∧ Ext w w' := by
  obtain ⟨nm, lo, hi, st, how, tr, rv⟩ := c
  obtain ⟨⟨l1, l2⟩, ⟨h1, h2⟩, ⟨s1, s2⟩, ⟨w1, w2⟩, ⟨t1, t2⟩⟩ := hc
  dsimp only [CritA.val, CritA.cells] at *
  obtain ⟨R, hR⟩ : ∃ R, R = rightC ⟨nm, lo, hi, st, how, tr, rv⟩ := ⟨_, rfl⟩
  rw [← hR]
  replace hR := Lib.hid hR
  obtain ⟨x1, hw, hx, Kx⟩ := boxQ1 w #[.string nm, .int .i64 lo, .int .i64 hi, .int .i64 st, .int .i64 how, .int .i64 tr, .bool rv] 48
  replace hw := Lib.hid hw
  go_enter Try.func52, Try.ntmps52
  go_upto_region 1 with fail
  rw [hw.out]
  clear hw
  by_cases d1 : 0 ≤ lo
  rotate_left
  · skip
    have c1 := Kx.out.cell (i := 1) (v := .int .i64 lo) rfl
    have c2 := Kx.out.cell (i := 2) (v := .int .i64 hi) rfl
    have c3 := Kx.out.cell (i := 3) (v := .int .i64 st) rfl
    have c4 := Kx.out.cell (i := 4) (v := .int .i64 how) rfl
    have c5 := Kx.out.cell (i := 5) (v := .int .i64 tr) rfl
    obtain rfl : R = false := hR.out.trans (by simp [rightC, d1]; try omega)
    clear hR
    have d1n : decide (lo < 0) = true := decide_eq_true (by omega)
    go_wp2_with fail
    go_ret
    exact ⟨rfl, hx⟩
  have d1p : decide (lo < 0) = false := decide_eq_false (by omega)
  by_cases d2 : lo < hi
  rotate_left
  · skip
    have c1 := Kx.out.cell (i := 1) (v := .int .i64 lo) rfl
    have c2 := Kx.out.cell (i := 2) (v := .int .i64 hi) rfl
    have c3 := Kx.out.cell (i := 3) (v := .int .i64 st) rfl
    have c4 := Kx.out.cell (i := 4) (v := .int .i64 how) rfl
    have c5 := Kx.out.cell (i := 5) (v := .int .i64 tr) rfl
    obtain rfl : R = false := hR.out.trans (by simp [rightC, d1, d2]; try omega)
    clear hR
    have d2n : decide (hi ≤ lo) = true := decide_eq_true (by omega)
    go_wp2_with fail
    go_ret
    exact ⟨rfl, hx⟩
  have d2p : decide (hi ≤ lo) = false := decide_eq_false (by omega)
  by_cases d3 : hi ≤ 1000
  rotate_left
  · skip
    have c1 := Kx.out.cell (i := 1) (v := .int .i64 lo) rfl
    have c2 := Kx.out.cell (i := 2) (v := .int .i64 hi) rfl
    have c3 := Kx.out.cell (i := 3) (v := .int .i64 st) rfl
    have c4 := Kx.out.cell (i := 4) (v := .int .i64 how) rfl
    have c5 := Kx.out.cell (i := 5) (v := .int .i64 tr) rfl
    obtain rfl : R = false := hR.out.trans (by simp [rightC, d1, d2, d3]; try omega)
    clear hR
    have d3n : decide (1000 < hi) = true := decide_eq_true (by omega)
    go_wp2_with fail
    go_ret
    exact ⟨rfl, hx⟩
  have d3p : decide (1000 < hi) = false := decide_eq_false (by omega)
  by_cases d4 : 1 ≤ st
  rotate_left
  · skip
    have c1 := Kx.out.cell (i := 1) (v := .int .i64 lo) rfl
    have c2 := Kx.out.cell (i := 2) (v := .int .i64 hi) rfl
    have c3 := Kx.out.cell (i := 3) (v := .int .i64 st) rfl
    have c4 := Kx.out.cell (i := 4) (v := .int .i64 how) rfl
    have c5 := Kx.out.cell (i := 5) (v := .int .i64 tr) rfl
    obtain rfl : R = false := hR.out.trans (by simp [rightC, d1, d2, d3, d4]; try omega)
    clear hR
    have d4n : decide (st < 1) = true := decide_eq_true (by omega)
    go_wp2_with fail
    go_ret
    exact ⟨rfl, hx⟩
  have d4p : decide (st < 1) = false := decide_eq_false (by omega)
  by_cases d5 : 0 ≤ tr
  rotate_left
  · skip
    have c1 := Kx.out.cell (i := 1) (v := .int .i64 lo) rfl
    have c2 := Kx.out.cell (i := 2) (v := .int .i64 hi) rfl
    have c3 := Kx.out.cell (i := 3) (v := .int .i64 st) rfl
    have c4 := Kx.out.cell (i := 4) (v := .int .i64 how) rfl
    have c5 := Kx.out.cell (i := 5) (v := .int .i64 tr) rfl
    obtain rfl : R = false := hR.out.trans (by simp [rightC, d1, d2, d3, d4, d5]; try omega)
    clear hR
    have d5n : decide (tr < 0) = true := decide_eq_true (by omega)
    go_wp2_with fail
    go_ret
    exact ⟨rfl, hx⟩
  have d5p : decide (tr < 0) = false := decide_eq_false (by omega)
  by_cases d6 : tr ≤ 127
  rotate_left
  · skip
    have c1 := Kx.out.cell (i := 1) (v := .int .i64 lo) rfl
    have c2 := Kx.out.cell (i := 2) (v := .int .i64 hi) rfl
    have c3 := Kx.out.cell (i := 3) (v := .int .i64 st) rfl
    have c4 := Kx.out.cell (i := 4) (v := .int .i64 how) rfl
    have c5 := Kx.out.cell (i := 5) (v := .int .i64 tr) rfl
    obtain rfl : R = false := hR.out.trans (by simp [rightC, d1, d2, d3, d4, d5, d6]; try omega)
    clear hR
    have d6n : decide (127 < tr) = true := decide_eq_true (by omega)
    go_wp2_with fail
    go_ret
    exact ⟨rfl, hx⟩
  have d6p : decide (127 < tr) = false := decide_eq_false (by omega)
  by_cases e7 : how = 2
  · subst e7
    by_cases e9 : (hi - lo) % st = 0
    · have e8 : (hi - lo).tmod st = 0 := by rw [emod_tmod (by omega)]; exact e9
      obtain rfl : R = true := hR.out.trans (by simp [rightC, d1, d2, d3, d4, d5, d6, e9]; try omega)
      clear hR
      have E9 := Lib.hid e9
      clear e9
      have c1 := Kx.out.cell (i := 1) (v := .int .i64 lo) rfl
      have c2 := Kx.out.cell (i := 2) (v := .int .i64 hi) rfl
      have c3 := Kx.out.cell (i := 3) (v := .int .i64 st) rfl
      have c4 := Kx.out.cell (i := 4) (v := .int .i64 (2)) rfl
      have c5 := Kx.out.cell (i := 5) (v := .int .i64 tr) rfl
      have hl := Ext.alloc x1 (.cells #[.int .i64 1, .int .i64 2, .int .i64 3] 3)
      have KK := Lib.hid (Kx.out.ext hl)
      have k1 := KK.out.cell (i := 1) (v := .int .i64 lo) rfl
      have k2 := KK.out.cell (i := 2) (v := .int .i64 hi) rfl
      have k3 := KK.out.cell (i := 3) (v := .int .i64 st) rfl
      have k4 := KK.out.cell (i := 4) (v := .int .i64 (2)) rfl
      have k5 := KK.out.cell (i := 5) (v := .int .i64 tr) rfl
      go_wp2_with fail
      refine (slices_ContainsI _ 0 3 [1, 2, 3] 2 true (by simp) _ (ints3 (Blk.new0 x1 #[.int .i64 1, .int .i64 2, .int .i64 3] 3) ⟨by decide, by decide⟩ ⟨by decide, by decide⟩ ⟨by decide, by decide⟩)).mono ?_
      rintro e x2 ⟨rfl, rfl⟩
      go_wp2_with fail
      go_ret
      exact ⟨by simp [e8, E9.out], hx.trans hl⟩
    · have e8 : (hi - lo).tmod st ≠ 0 := by rw [emod_tmod (by omega)]; exact e9
      obtain rfl : R = false := hR.out.trans (by simp [rightC, d1, d2, d3, d4, d5, d6, e9]; try omega)
      clear hR
      have E9 := Lib.hid e9
      clear e9
      have c1 := Kx.out.cell (i := 1) (v := .int .i64 lo) rfl
      have c2 := Kx.out.cell (i := 2) (v := .int .i64 hi) rfl
      have c3 := Kx.out.cell (i := 3) (v := .int .i64 st) rfl
      have c4 := Kx.out.cell (i := 4) (v := .int .i64 (2)) rfl
      have c5 := Kx.out.cell (i := 5) (v := .int .i64 tr) rfl
      have hl := Ext.alloc x1 (.cells #[.int .i64 1, .int .i64 2, .int .i64 3] 3)
      have KK := Lib.hid (Kx.out.ext hl)
      have k1 := KK.out.cell (i := 1) (v := .int .i64 lo) rfl
      have k2 := KK.out.cell (i := 2) (v := .int .i64 hi) rfl
      have k3 := KK.out.cell (i := 3) (v := .int .i64 st) rfl
      have k4 := KK.out.cell (i := 4) (v := .int .i64 (2)) rfl
      have k5 := KK.out.cell (i := 5) (v := .int .i64 tr) rfl
      go_wp2_with fail
      refine (slices_ContainsI _ 0 3 [1, 2, 3] 2 true (by simp) _ (ints3 (Blk.new0 x1 #[.int .i64 1, .int .i64 2, .int .i64 3] 3) ⟨by decide, by decide⟩ ⟨by decide, by decide⟩ ⟨by decide, by decide⟩)).mono ?_
      rintro e x2 ⟨rfl, rfl⟩
      go_wp2_with fail
      go_ret
      exact ⟨by simp [e8, E9.out], hx.trans hl⟩
  by_cases e6 : tr = 0
  rotate_left
  · have e3 : 0 < tr := by omega
    have c1 := Kx.out.cell (i := 1) (v := .int .i64 lo) rfl
    have c2 := Kx.out.cell (i := 2) (v := .int .i64 hi) rfl
    have c3 := Kx.out.cell (i := 3) (v := .int .i64 st) rfl
    have c4 := Kx.out.cell (i := 4) (v := .int .i64 how) rfl
    have c5 := Kx.out.cell (i := 5) (v := .int .i64 tr) rfl
    obtain rfl : R = false := hR.out.trans (by simp [rightC, d1, d2, d3, d4, d5, d6, e7, e6]; try omega)
    clear hR
    go_wp2_with fail
    go_ret
    exact ⟨rfl, hx⟩
  subst e6
  by_cases e5 : how = 1 ∨ how = 3
  · have e4 : how = 1 ∨ how = 2 ∨ how = 3 := by omega
    by_cases e9 : (hi - lo) % st = 0
    · have e8 : (hi - lo).tmod st = 0 := by rw [emod_tmod (by omega)]; exact e9
      obtain rfl : R = true := hR.out.trans (by simp [rightC, d1, d2, d3, d4, d5, d6, e4, e9]; try omega)
      clear hR
      have E9 := Lib.hid e9
      clear e9
      have c1 := Kx.out.cell (i := 1) (v := .int .i64 lo) rfl
      have c2 := Kx.out.cell (i := 2) (v := .int .i64 hi) rfl
      have c3 := Kx.out.cell (i := 3) (v := .int .i64 st) rfl
      have c4 := Kx.out.cell (i := 4) (v := .int .i64 how) rfl
      have c5 := Kx.out.cell (i := 5) (v := .int .i64 (0)) rfl
      have hl := Ext.alloc x1 (.cells #[.int .i64 1, .int .i64 2, .int .i64 3] 3)
      have KK := Lib.hid (Kx.out.ext hl)
      have k1 := KK.out.cell (i := 1) (v := .int .i64 lo) rfl
      have k2 := KK.out.cell (i := 2) (v := .int .i64 hi) rfl
      have k3 := KK.out.cell (i := 3) (v := .int .i64 st) rfl
      have k4 := KK.out.cell (i := 4) (v := .int .i64 how) rfl
      have k5 := KK.out.cell (i := 5) (v := .int .i64 (0)) rfl
      go_wp2_with fail
      refine (slices_ContainsI _ 0 3 [1, 2, 3] how true (by simp; omega) _ (ints3 (Blk.new0 x1 #[.int .i64 1, .int .i64 2, .int .i64 3] 3) ⟨by decide, by decide⟩ ⟨by decide, by decide⟩ ⟨by decide, by decide⟩)).mono ?_
      rintro e x2 ⟨rfl, rfl⟩
      go_wp2_with fail
      go_ret
      exact ⟨by simp [e8, E9.out], hx.trans hl⟩
    · have e8 : (hi - lo).tmod st ≠ 0 := by rw [emod_tmod (by omega)]; exact e9
      obtain rfl : R = false := hR.out.trans (by simp [rightC, d1, d2, d3, d4, d5, d6, e4, e9]; try omega)
      clear hR
      have E9 := Lib.hid e9
      clear e9
      have c1 := Kx.out.cell (i := 1) (v := .int .i64 lo) rfl
      have c2 := Kx.out.cell (i := 2) (v := .int .i64 hi) rfl
      have c3 := Kx.out.cell (i := 3) (v := .int .i64 st) rfl
      have c4 := Kx.out.cell (i := 4) (v := .int .i64 how) rfl
      have c5 := Kx.out.cell (i := 5) (v := .int .i64 (0)) rfl
      have hl := Ext.alloc x1 (.cells #[.int .i64 1, .int .i64 2, .int .i64 3] 3)
      have KK := Lib.hid (Kx.out.ext hl)
      have k1 := KK.out.cell (i := 1) (v := .int .i64 lo) rfl
      have k2 := KK.out.cell (i := 2) (v := .int .i64 hi) rfl
      have k3 := KK.out.cell (i := 3) (v := .int .i64 st) rfl
      have k4 := KK.out.cell (i := 4) (v := .int .i64 how) rfl
      have k5 := KK.out.cell (i := 5) (v := .int .i64 (0)) rfl
      go_wp2_with fail
      refine (slices_ContainsI _ 0 3 [1, 2, 3] how true (by simp; omega) _ (ints3 (Blk.new0 x1 #[.int .i64 1, .int .i64 2, .int .i64 3] 3) ⟨by decide, by decide⟩ ⟨by decide, by decide⟩ ⟨by decide, by decide⟩)).mono ?_
      rintro e x2 ⟨rfl, rfl⟩
      go_wp2_with fail
      go_ret
      exact ⟨by simp [e8, E9.out], hx.trans hl⟩
  have e4 : ¬ (how = 1 ∨ how = 2 ∨ how = 3) := by omega
  obtain rfl : R = false := hR.out.trans (by simp [rightC, d1, d2, d3, d4, d5, d6, e4]; try omega)
  clear hR
  have c1 := Kx.out.cell (i := 1) (v := .int .i64 lo) rfl
  have c2 := Kx.out.cell (i := 2) (v := .int .i64 hi) rfl
  have c3 := Kx.out.cell (i := 3) (v := .int .i64 st) rfl
  have c4 := Kx.out.cell (i := 4) (v := .int .i64 how) rfl
  have c5 := Kx.out.cell (i := 5) (v := .int .i64 (0)) rfl
  have hl := Ext.alloc x1 (.cells #[.int .i64 1, .int .i64 2, .int .i64 3] 3)
  have KK := Lib.hid (Kx.out.ext hl)
  have k1 := KK.out.cell (i := 1) (v := .int .i64 lo) rfl
  have k2 := KK.out.cell (i := 2) (v := .int .i64 hi) rfl
  have k3 := KK.out.cell (i := 3) (v := .int .i64 st) rfl
  have k4 := KK.out.cell (i := 4) (v := .int .i64 how) rfl
  have k5 := KK.out.cell (i := 5) (v := .int .i64 (0)) rfl
  go_wp2_with fail
  refine (slices_ContainsI _ 0 3 [1, 2, 3] how false (by simp; omega) _ (ints3 (Blk.new0 x1 #[.int .i64 1, .int .i64 2, .int .i64 3] 3) ⟨by decide, by decide⟩ ⟨by decide, by decide⟩ ⟨by decide, by decide⟩)).mono ?_
  rintro e x2 ⟨rfl, rfl⟩
  go_wp2_with fail
  go_ret
  exact ⟨rfl, hx.trans hl⟩
set_option maxHeartbeats 2000000 in
theorem ref16_Right (c : CritA) (hc : c.In) (w : World) : Calls Try.prog 53 #[c.val] w fun e w' => e = .returned (.bool (rightC c)) ∧ Ext w w' := by
  obtain ⟨nm, lo, hi, st, how, tr, rv⟩ := c
  obtain ⟨⟨l1, l2⟩, ⟨h1, h2⟩, ⟨s1, s2⟩, ⟨w1, w2⟩, ⟨t1, t2⟩⟩ := hc
  dsimp only [CritA.val, CritA.cells] at *
  obtain ⟨R, hR⟩ : ∃ R, R = rightC ⟨nm, lo, hi, st, how, tr, rv⟩ := ⟨_, rfl⟩
  rw [← hR]
  replace hR := Lib.hid hR
  obtain ⟨x1, hw, hx, Kx⟩ := boxQ1 w #[.string nm, .int .i64 lo, .int .i64 hi, .int .i64 st, .int .i64 how, .int .i64 tr, .bool rv] 48
  replace hw := Lib.hid hw
  go_enter Try.func53, Try.ntmps53
  go_upto_region 1 with fail
  rw [hw.out]
  clear hw
  by_cases d1 : 0 ≤ lo
  rotate_left
  · skip
    have c1 := Kx.out.cell (i := 1) (v := .int .i64 lo) rfl
    have c2 := Kx.out.cell (i := 2) (v := .int .i64 hi) rfl
    have c3 := Kx.out.cell (i := 3) (v := .int .i64 st) rfl
    have c4 := Kx.out.cell (i := 4) (v := .int .i64 how) rfl
    have c5 := Kx.out.cell (i := 5) (v := .int .i64 tr) rfl
    obtain rfl : R = false := hR.out.trans (by simp [rightC, d1]; try omega)
    clear hR
    have d1n : decide (lo < 0) = true := decide_eq_true (by omega)
    go_wp2_with fail
    go_ret
    exact ⟨rfl, hx⟩
  have d1p : decide (lo < 0) = false := decide_eq_false (by omega)
  by_cases d2 : lo < hi
  rotate_left
  · skip
    have c1 := Kx.out.cell (i := 1) (v := .int .i64 lo) rfl
    have c2 := Kx.out.cell (i := 2) (v := .int .i64 hi) rfl
    have c3 := Kx.out.cell (i := 3) (v := .int .i64 st) rfl
    have c4 := Kx.out.cell (i := 4) (v := .int .i64 how) rfl
    have c5 := Kx.out.cell (i := 5) (v := .int .i64 tr) rfl
    obtain rfl : R = false := hR.out.trans (by simp [rightC, d1, d2]; try omega)
    clear hR
    have d2n : decide (hi ≤ lo) = true := decide_eq_true (by omega)
    go_wp2_with fail
    go_ret
    exact ⟨rfl, hx⟩
  have d2p : decide (hi ≤ lo) = false := decide_eq_false (by omega)
  by_cases d3 : hi ≤ 1000
  rotate_left
  · skip
    have c1 := Kx.out.cell (i := 1) (v := .int .i64 lo) rfl
    have c2 := Kx.out.cell (i := 2) (v := .int .i64 hi) rfl
    have c3 := Kx.out.cell (i := 3) (v := .int .i64 st) rfl
    have c4 := Kx.out.cell (i := 4) (v := .int .i64 how) rfl
    have c5 := Kx.out.cell (i := 5) (v := .int .i64 tr) rfl
    obtain rfl : R = false := hR.out.trans (by simp [rightC, d1, d2, d3]; try omega)
    clear hR
    have d3n : decide (1000 < hi) = true := decide_eq_true (by omega)
    go_wp2_with fail
    go_ret
    exact ⟨rfl, hx⟩
  have d3p : decide (1000 < hi) = false := decide_eq_false (by omega)
  by_cases d4 : 1 ≤ st
  rotate_left
  · skip
    have c1 := Kx.out.cell (i := 1) (v := .int .i64 lo) rfl
    have c2 := Kx.out.cell (i := 2) (v := .int .i64 hi) rfl
    have c3 := Kx.out.cell (i := 3) (v := .int .i64 st) rfl
    have c4 := Kx.out.cell (i := 4) (v := .int .i64 how) rfl
    have c5 := Kx.out.cell (i := 5) (v := .int .i64 tr) rfl
    obtain rfl : R = false := hR.out.trans (by simp [rightC, d1, d2, d3, d4]; try omega)
    clear hR
    have d4n : decide (st < 1) = true := decide_eq_true (by omega)
    go_wp2_with fail
    go_ret
    exact ⟨rfl, hx⟩
  have d4p : decide (st < 1) = false := decide_eq_false (by omega)
  by_cases d9 : (hi - lo) % st = 0
  rotate_left
  · have e8 : (hi - lo).tmod st ≠ 0 := by rw [emod_tmod (by omega)]; exact d9
    have c1 := Kx.out.cell (i := 1) (v := .int .i64 lo) rfl
    have c2 := Kx.out.cell (i := 2) (v := .int .i64 hi) rfl
    have c3 := Kx.out.cell (i := 3) (v := .int .i64 st) rfl
    have c4 := Kx.out.cell (i := 4) (v := .int .i64 how) rfl
    have c5 := Kx.out.cell (i := 5) (v := .int .i64 tr) rfl
    obtain rfl : R = false := hR.out.trans (by simp [rightC, d1, d2, d3, d4, d9]; try omega)
    clear hR
    have e8q : (!((hi - lo).tmod st == 0)) = true := by simpa using e8
    have e8r : ((hi - lo).tmod st == 0) = false := by simpa using e8
    have e8s : decide ((hi - lo).tmod st = 0) = false := by simpa using e8
    go_wp2_with fail
    go_ret
    exact ⟨rfl, hx⟩
  have e8 : (hi - lo).tmod st = 0 := by rw [emod_tmod (by omega)]; exact d9
  have e8q : (!((hi - lo).tmod st == 0)) = false := by simpa using e8
  clear e8
  by_cases d7 : 1 ≤ how
  rotate_left
  · have e4 : ¬ (how = 1 ∨ how = 2 ∨ how = 3) := by omega
    have c1 := Kx.out.cell (i := 1) (v := .int .i64 lo) rfl
    have c2 := Kx.out.cell (i := 2) (v := .int .i64 hi) rfl
    have c3 := Kx.out.cell (i := 3) (v := .int .i64 st) rfl
    have c4 := Kx.out.cell (i := 4) (v := .int .i64 how) rfl
    have c5 := Kx.out.cell (i := 5) (v := .int .i64 tr) rfl
    obtain rfl : R = false := hR.out.trans (by simp [rightC, d1, d2, d3, d4, d9, e4]; try omega)
    clear hR
    have d7n : decide (how < 1) = true := decide_eq_true (by omega)
    go_wp2_with fail
    go_ret
    exact ⟨rfl, hx⟩
  have d7p : decide (how < 1) = false := decide_eq_false (by omega)
  by_cases d8 : how ≤ 3
  rotate_left
  · have e4 : ¬ (how = 1 ∨ how = 2 ∨ how = 3) := by omega
    have c1 := Kx.out.cell (i := 1) (v := .int .i64 lo) rfl
    have c2 := Kx.out.cell (i := 2) (v := .int .i64 hi) rfl
    have c3 := Kx.out.cell (i := 3) (v := .int .i64 st) rfl
    have c4 := Kx.out.cell (i := 4) (v := .int .i64 how) rfl
    have c5 := Kx.out.cell (i := 5) (v := .int .i64 tr) rfl
    obtain rfl : R = false := hR.out.trans (by simp [rightC, d1, d2, d3, d4, d9, e4]; try omega)
    clear hR
    have d8n : decide (3 < how) = true := decide_eq_true (by omega)
    go_wp2_with fail
    go_ret
    exact ⟨rfl, hx⟩
  have d8p : decide (3 < how) = false := decide_eq_false (by omega)
  have e4 : how = 1 ∨ how = 2 ∨ how = 3 := by omega
  by_cases e6 : tr = 0
  · subst e6
    have c1 := Kx.out.cell (i := 1) (v := .int .i64 lo) rfl
    have c2 := Kx.out.cell (i := 2) (v := .int .i64 hi) rfl
    have c3 := Kx.out.cell (i := 3) (v := .int .i64 st) rfl
    have c4 := Kx.out.cell (i := 4) (v := .int .i64 how) rfl
    have c5 := Kx.out.cell (i := 5) (v := .int .i64 (0)) rfl
    obtain rfl : R = true := hR.out.trans (by simp [rightC, d1, d2, d3, d4, d9, e4]; try omega)
    clear hR
    go_wp2_with fail
    go_ret
    exact ⟨rfl, hx⟩
  have e6q : (tr == 0) = false := by simpa using e6
  by_cases e7 : how = 2
  rotate_left
  · have e7q : (how == 2) = false := by simpa using e7
    have c1 := Kx.out.cell (i := 1) (v := .int .i64 lo) rfl
    have c2 := Kx.out.cell (i := 2) (v := .int .i64 hi) rfl
    have c3 := Kx.out.cell (i := 3) (v := .int .i64 st) rfl
    have c4 := Kx.out.cell (i := 4) (v := .int .i64 how) rfl
    have c5 := Kx.out.cell (i := 5) (v := .int .i64 tr) rfl
    obtain rfl : R = false := hR.out.trans (by simp [rightC, d1, d2, d3, d4, d9, e4, e6, e7]; try omega)
    clear hR
    go_wp2_with fail
    go_ret
    exact ⟨rfl, hx⟩
  subst e7
  by_cases d5 : 0 ≤ tr
  rotate_left
  · skip
    have c1 := Kx.out.cell (i := 1) (v := .int .i64 lo) rfl
    have c2 := Kx.out.cell (i := 2) (v := .int .i64 hi) rfl
    have c3 := Kx.out.cell (i := 3) (v := .int .i64 st) rfl
    have c4 := Kx.out.cell (i := 4) (v := .int .i64 (2)) rfl
    have c5 := Kx.out.cell (i := 5) (v := .int .i64 tr) rfl
    obtain rfl : R = false := hR.out.trans (by simp [rightC, d1, d2, d3, d4, d9, e4, e6, d5]; try omega)
    clear hR
    have d5n : decide (tr < 0) = true := decide_eq_true (by omega)
    go_wp2_with fail
    go_ret
    exact ⟨rfl, hx⟩
  have d5p : decide (tr < 0) = false := decide_eq_false (by omega)
  have d5q : decide (0 < tr) = true := decide_eq_true (by omega)
  by_cases d6 : tr ≤ 127
  rotate_left
  · skip
    have c1 := Kx.out.cell (i := 1) (v := .int .i64 lo) rfl
    have c2 := Kx.out.cell (i := 2) (v := .int .i64 hi) rfl
    have c3 := Kx.out.cell (i := 3) (v := .int .i64 st) rfl
    have c4 := Kx.out.cell (i := 4) (v := .int .i64 (2)) rfl
    have c5 := Kx.out.cell (i := 5) (v := .int .i64 tr) rfl
    obtain rfl : R = false := hR.out.trans (by simp [rightC, d1, d2, d3, d4, d9, e4, d5, d6]; try omega)
    clear hR
    have d6n : decide (127 < tr) = true := decide_eq_true (by omega)
    go_wp2_with fail
    go_ret
    exact ⟨rfl, hx⟩
  have d6p : decide (127 < tr) = false := decide_eq_false (by omega)
  have c1 := Kx.out.cell (i := 1) (v := .int .i64 lo) rfl
  have c2 := Kx.out.cell (i := 2) (v := .int .i64 hi) rfl
  have c3 := Kx.out.cell (i := 3) (v := .int .i64 st) rfl
  have c4 := Kx.out.cell (i := 4) (v := .int .i64 (2)) rfl
  have c5 := Kx.out.cell (i := 5) (v := .int .i64 tr) rfl
  obtain rfl : R = true := hR.out.trans (by simp [rightC, d1, d2, d3, d4, d9, e4, d5, d6]; try omega)
  clear hR
  go_wp2_with fail
  go_ret
  exact ⟨rfl, hx⟩
end Go.Proofs.Ytmcbbhlglccmgaa
