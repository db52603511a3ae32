import Derived.Test.YtokffagbdfhnnaaUD
import Derived.OwnWalk
import Derived.Deep.QuietTactic
import Derived.Deep.Cut
namespace Go.Proofs.Ytokffagbdfhnnaa
open Go.RowKit Go BigFrame Go.Shelf
set_option maxRecDepth 100000
set_option linter.unusedSimpArgs false
set_option linter.unusedVariables false
attribute [local go_sem] Oper.semAt_some

/-! Layer 11: the reference's helpers: few, equal, same, columns. -/
theorem few_Big (n : Bool) (a : Option Addr) (q c : Nat) (w : World) (hq : q ≤ 9223372036854775807) :
    Calls Try.prog 24 #[.agg #[.bool n, .slice a q c]] w fun e w' => e = .returned (.bool (decide (q ≤ 2))) ∧ Ext w w' := by
  have hya := Ext.alloc w (.cells #[.bool n, .slice a q c] 36)
  have Kb := Lib.hid (Blk.new0 w #[.bool n, .slice a q c] 36)
  have HX := Lib.hid hya
  clear hya
  go_enter Try.func24, Try.ntmps24
  go_upto_region 1 with fail
  generalize w.alloc (.cells #[.bool n, .slice a q c] 36) = x1 at *
  generalize w.heap.size = pb at *
  obtain ⟨k0, k1⟩ := bk2 Kb
  by_cases h : q ≤ 2
  · have h' : (q : Int) ≤ 2 := by omega
    have e : decide (q ≤ 2) = true := decide_eq_true h
    have HE := Lib.hid e
    clear e
    go_wp2_with fail
    go_ret
    exact ⟨by first | rfl | (rw [HE.out]; rfl), HX.out⟩
  · have h' : ¬ (q : Int) ≤ 2 := by omega
    have e : decide (q ≤ 2) = false := decide_eq_false h
    have HE := Lib.hid e
    clear e
    go_wp2_with fail
    go_ret
    exact ⟨by first | rfl | (rw [HE.out]; rfl), HX.out⟩
/-- Are there few of them, with few digits? -/
def fewX (x : RatA) : Bool := decide (x.l.length ≤ 2) && decide (x.m.length ≤ 2)
def lenF (n : Nat) : Bool := decide (n ≤ 4) || (decide (17 < n) && decide (n ≤ 20))
def fewL (L : List RatA) : Bool := lenF L.length && L.all fewX
def fewA (A : List (List RatA)) : Bool := lenF A.length && A.all fewL
theorem all_snoc {α : Type} {p : α → Bool} {l : List α} {k : Nat} {x : α} (h : (l.take k).all p = true) (hx : l[k]? = some x) (hp : p x = true) : (l.take (k + 1)).all p = true := by
  rw [List.take_add_one, hx, List.all_append, h]; simp [hp]
theorem all_bad {α : Type} {p : α → Bool} {l : List α} {k : Nat} {x : α} (hx : l[k]? = some x) (hp : p x = false) : l.all p = false := by
  rw [Bool.eq_false_iff]; intro h
  rw [List.all_eq_true.1 h x (List.mem_of_getElem? hx)] at hp; cases hp
set_option maxHeartbeats 4000000 in
theorem few_List (a : Option Addr) (cap : Nat) (L : List RatA) (w : World) (h : RatsI w a cap L) :
    Calls Try.prog 8 #[.slice a L.length cap] w fun e w' => e = .returned (.bool (fewL L)) ∧ Ext w w' := by
  have hle := h.le
  have hmx := h.mx
  have HH := Lib.hid h
  clear h
  go_enter Try.func8, Try.ntmps8
  go_wp2_with fail
  go_loopw [3] (fun v wr => ∃ q : Nat, q ≤ L.length ∧ q ≤ 30 ∧ v = .int .i64 q ∧ (L.take q).all fewX = true ∧ Ext w wr) (fun v _ => L.length - (intOf v).toNat)
  case atStart => exact ⟨0, Nat.zero_le _, by omega, rfl, rfl, Ext.refl _⟩
  case round =>
    obtain ⟨q, hq, h30, rfl, hal, hxr⟩ := hrel
    have q0 : (0 : Int) ≤ (q : Int) := by omega
    by_cases hqL : q < L.length
    · have q1 : (q : Int) < (L.length : Int) := by omega
      by_cases hq30 : q < 30
      · have q2 : (q : Int) < 30 := by omega
        have hw1 : IntKind.i64.wrap ((q : Int) + 1) = (q : Int) + 1 := IntWalk.i64_in _ (by omega)
        obtain ⟨b, o, rfl⟩ := HH.out.head hqL
        obtain ⟨n, ad, c, l, n2, b', d, m, hLq, c0, c1, c2, c3, hI, hJ⟩ := (HH.out.ext hxr).get hqL
        have m1 : l.length ≤ 9223372036854775807 := Nat.le_trans hI.le hI.mx
        have m2 : m.length ≤ 9223372036854775807 := Nat.le_trans hJ.le hJ.mx
        have HL := Lib.hid hLq
        have HAL := Lib.hid hal
        have HX := Lib.hid hxr
        clear hLq hal hxr hI hJ
        go_wp2_with fail
        refine (few_Big n ad l.length c _ m1).mono ?_
        rintro e x2 ⟨rfl, hy⟩
        replace HX := Lib.hid (HX.out.trans hy)
        replace c2 := cell_exQ hy c2
        replace c3 := cell_exQ hy c3
        clear hy c0 c1
        by_cases hl : l.length ≤ 2
        · rw [decide_eq_true hl]
          go_wp2_with fail
          refine (few_Big n2 b' m.length d _ m2).mono ?_
          rintro e x3 ⟨rfl, hy⟩
          replace HX := Lib.hid (HX.out.trans hy)
          clear hy c2 c3
          by_cases hm : m.length ≤ 2
          · have HA2 : Hid ((L.take (q + 1)).all fewX = true) := Lib.hid (all_snoc HAL.out HL.out (by unfold fewX; rw [decide_eq_true hl, decide_eq_true hm]; rfl))
            rw [decide_eq_true hm]
            go_wp2_with fail
            go_roundw
            case rel => exact ⟨q + 1, by omega, by omega, by go_num, HA2.out, HX.out⟩
            case measure => simp [intOf]; omega
          · have HE : Hid (fewL L = false) := Lib.hid (by unfold fewL; rw [all_bad HL.out (by unfold fewX; rw [decide_eq_false hm, Bool.and_false]), Bool.and_false])
            rw [decide_eq_false hm]
            go_wp2_with fail
            go_ret
            exact ⟨by rw [HE.out]; rfl, HX.out⟩
        · have HE : Hid (fewL L = false) := Lib.hid (by unfold fewL; rw [all_bad HL.out (by unfold fewX; rw [decide_eq_false hl, Bool.false_and]), Bool.and_false])
          rw [decide_eq_false hl]
          go_wp2_with fail
          go_ret
          exact ⟨by rw [HE.out]; rfl, HX.out⟩
      · have q2 : ¬ (q : Int) < 30 := by omega
        have HE : Hid (fewL L = false) := Lib.hid (by unfold fewL lenF; rw [decide_eq_false (show ¬ L.length ≤ 4 by omega), decide_eq_false (show ¬ L.length ≤ 20 by omega)]; simp)
        have HX := Lib.hid hxr
        have g1 : ¬ (L.length : Int) ≤ 4 := by omega
        have g2 : (L.length : Int) > 17 := by omega
        have g3 : ¬ (L.length : Int) ≤ 20 := by omega
        clear hal hxr
        go_wp2_with fail
        go_ret
        exact ⟨by rw [HE.out]; rfl, HX.out⟩
    · have q1 : ¬ (q : Int) < (L.length : Int) := by omega
      have HA : Hid (L.all fewX = true) := Lib.hid (by rw [List.take_of_length_le (by omega)] at hal; exact hal)
      have HX := Lib.hid hxr
      clear hal hxr
      by_cases h4 : L.length ≤ 4
      · have HE : Hid (fewL L = true) := Lib.hid (by unfold fewL lenF; rw [HA.out, decide_eq_true h4]; rfl)
        have g1 : (L.length : Int) ≤ 4 := by omega
        go_wp2_with fail
        go_ret
        exact ⟨by rw [HE.out]; rfl, HX.out⟩
      · have g1 : ¬ (L.length : Int) ≤ 4 := by omega
        by_cases h17 : 17 < L.length
        · have g2 : (L.length : Int) > 17 := by omega
          by_cases h20 : L.length ≤ 20
          · have g3 : (L.length : Int) ≤ 20 := by omega
            have HE : Hid (fewL L = true) := Lib.hid (by unfold fewL lenF; rw [HA.out, decide_eq_true h17, decide_eq_true h20]; simp)
            go_wp2_with fail
            go_ret
            exact ⟨by rw [HE.out]; rfl, HX.out⟩
          · have g3 : ¬ (L.length : Int) ≤ 20 := by omega
            have HE : Hid (fewL L = false) := Lib.hid (by unfold fewL lenF; rw [decide_eq_false h4, decide_eq_false h20]; simp)
            go_wp2_with fail
            go_ret
            exact ⟨by rw [HE.out]; rfl, HX.out⟩
        · have g2 : ¬ (L.length : Int) > 17 := by omega
          have HE : Hid (fewL L = false) := Lib.hid (by unfold fewL lenF; rw [decide_eq_false h4, decide_eq_false h17]; simp)
          go_wp2_with fail
          go_ret
          exact ⟨by rw [HE.out]; rfl, HX.out⟩
set_option maxHeartbeats 4000000 in
theorem few_Mat (a : Option Addr) (cap : Nat) (A : List (List RatA)) (w : World) (h : RRows w a cap A) :
    Calls Try.prog 7 #[.slice a A.length cap] w fun e w' => e = .returned (.bool (fewA A)) ∧ Ext w w' := by
  have hle := h.le
  have hmx := h.mx
  have HH := Lib.hid h
  clear h
  go_enter Try.func7, Try.ntmps7
  go_wp2_with fail
  go_loopw [3] (fun v wr => ∃ q : Nat, q ≤ A.length ∧ q ≤ 30 ∧ v = .int .i64 q ∧ (A.take q).all fewL = true ∧ Ext w wr) (fun v _ => A.length - (intOf v).toNat)
  case atStart => exact ⟨0, Nat.zero_le _, by omega, rfl, rfl, Ext.refl _⟩
  case round =>
    obtain ⟨q, hq, h30, rfl, hal, hxr⟩ := hrel
    have q0 : (0 : Int) ≤ (q : Int) := by omega
    by_cases hqL : q < A.length
    · have q1 : (q : Int) < (A.length : Int) := by omega
      by_cases hq30 : q < 30
      · have q2 : (q : Int) < 30 := by omega
        have hw1 : IntKind.i64.wrap ((q : Int) + 1) = (q : Int) + 1 := IntWalk.i64_in _ (by omega)
        obtain ⟨b, o, rfl⟩ := HH.out.head hqL
        obtain ⟨L, ar, cr, hLq, c0, hR⟩ := (RRows.ext hxr HH.out).get hqL
        have HL := Lib.hid hLq
        have HAL := Lib.hid hal
        have HX := Lib.hid hxr
        have HR := Lib.hid hR
        clear hLq hal hxr hR
        go_wp2_with fail
        refine (few_List ar cr L _ HR.out).mono ?_
        rintro e x2 ⟨rfl, hy⟩
        replace HX := Lib.hid (HX.out.trans hy)
        clear hy c0 HR
        cases hf : fewL L with
        | true =>
          have HA2 : Hid ((A.take (q + 1)).all fewL = true) := Lib.hid (all_snoc HAL.out HL.out hf)
          clear hf
          go_wp2_with fail
          go_roundw
          case rel => exact ⟨q + 1, by omega, by omega, by go_num, HA2.out, HX.out⟩
          case measure => simp [intOf]; omega
        | false =>
          have HE : Hid (fewA A = false) := Lib.hid (by unfold fewA; rw [all_bad HL.out hf, Bool.and_false])
          clear hf
          go_wp2_with fail
          go_ret
          exact ⟨by rw [HE.out]; rfl, HX.out⟩
      · have q2 : ¬ (q : Int) < 30 := by omega
        have HE : Hid (fewA A = false) := Lib.hid (by unfold fewA lenF; rw [decide_eq_false (show ¬ A.length ≤ 4 by omega), decide_eq_false (show ¬ A.length ≤ 20 by omega)]; simp)
        have HX := Lib.hid hxr
        have g1 : ¬ (A.length : Int) ≤ 4 := by omega
        have g2 : (A.length : Int) > 17 := by omega
        have g3 : ¬ (A.length : Int) ≤ 20 := by omega
        clear hal hxr
        go_wp2_with fail
        go_ret
        exact ⟨by rw [HE.out]; rfl, HX.out⟩
    · have q1 : ¬ (q : Int) < (A.length : Int) := by omega
      have HA : Hid (A.all fewL = true) := Lib.hid (by rw [List.take_of_length_le (by omega)] at hal; exact hal)
      have HX := Lib.hid hxr
      clear hal hxr
      by_cases h4 : A.length ≤ 4
      · have HE : Hid (fewA A = true) := Lib.hid (by unfold fewA lenF; rw [HA.out, decide_eq_true h4]; rfl)
        have g1 : (A.length : Int) ≤ 4 := by omega
        go_wp2_with fail
        go_ret
        exact ⟨by rw [HE.out]; rfl, HX.out⟩
      · have g1 : ¬ (A.length : Int) ≤ 4 := by omega
        by_cases h17 : 17 < A.length
        · have g2 : (A.length : Int) > 17 := by omega
          by_cases h20 : A.length ≤ 20
          · have g3 : (A.length : Int) ≤ 20 := by omega
            have HE : Hid (fewA A = true) := Lib.hid (by unfold fewA lenF; rw [HA.out, decide_eq_true h17, decide_eq_true h20]; simp)
            go_wp2_with fail
            go_ret
            exact ⟨by rw [HE.out]; rfl, HX.out⟩
          · have g3 : ¬ (A.length : Int) ≤ 20 := by omega
            have HE : Hid (fewA A = false) := Lib.hid (by unfold fewA lenF; rw [decide_eq_false h4, decide_eq_false h20]; simp)
            go_wp2_with fail
            go_ret
            exact ⟨by rw [HE.out]; rfl, HX.out⟩
        · have g2 : ¬ (A.length : Int) > 17 := by omega
          have HE : Hid (fewA A = false) := Lib.hid (by unfold fewA lenF; rw [decide_eq_false h4, decide_eq_false h17]; simp)
          go_wp2_with fail
          go_ret
          exact ⟨by rw [HE.out]; rfl, HX.out⟩
end Go.Proofs.Ytokffagbdfhnnaa
