import Derived.Test.YtpaaanbcadlhiaaDoorPCalcA
namespace Go.Proofs.YtpaaanbcadlhiaaDoor
open Go.RowKit Go BigFrame Go.Shelf
set_option maxRecDepth 100000
set_option linter.unusedSimpArgs false

/-! law09.valid: all integers are valid, and have at most 12 digits. -/
structure BigA where
  n : Bool
  a : Option Addr
  c : Nat
  l : List Int
/-- Block g holds these integers, one behind the other. -/
structure BigRow (w : World) (g : Nat) (L : List BigA) : Prop where
  c0 : ∀ i (h : i < L.length), w.cell? ⟨g, i * 2, none⟩ = some (.bool L[i].n)
  c1 : ∀ i (h : i < L.length), w.cell? ⟨g, i * 2 + 1, none⟩ = some (.slice L[i].a L[i].l.length L[i].c)
  i : ∀ i (h : i < L.length), Ints w L[i].a L[i].c L[i].l
def okA (x : BigA) : Bool := decide (x.l.length ≤ 12) && chkB x.n x.l
set_option maxHeartbeats 2000000 in
theorem law_valid_yes (g : Nat) (L : List BigA) (w : World) (h : BigRow w g L) (hl : L.length ≤ 100) (hok : ∀ x ∈ L, okA x = true) :
    Calls Tryd.prog 28 #[.slice (some ⟨g, 0, none⟩) L.length L.length] w fun e w' => e = .returned (.bool true) ∧ Ext w w' := by
  have HH := Lib.hid h
  have HOK := Lib.hid hok
  clear h hok
  go_enter Tryd.func28, Tryd.ntmps28
  go_wp2_with fail
  go_loopw [7] (fun i wr => ∃ k : Nat, k ≤ L.length ∧ i = .int .i64 k ∧ Ext w wr) (fun i _ => L.length - (intOf i).toNat)
  case atStart => exact ⟨0, Nat.zero_le _, rfl, Ext.refl _⟩
  case round =>
    obtain ⟨k, hk, rfl, hxr⟩ := hrel
    by_cases hkn : k < L.length
    · have e0 := HH.out.c0 k hkn
      have e1 := HH.out.c1 k hkn
      have hi := HH.out.i k hkn
      have hok := HOK.out L[k] (List.getElem_mem hkn)
      generalize L[k] = X at e0 e1 hi hok
      obtain ⟨n, a, c, l⟩ := X
      simp only [okA, Bool.and_eq_true, decide_eq_true_eq] at hok
      dsimp only at e0 e1 hi hok
      have c0 := (hxr.cell (p := ⟨g, k * 2, none⟩) (lt_of_cell e0)).trans e0
      have c1 := (hxr.cell (p := ⟨g, k * 2 + 1, none⟩) (lt_of_cell e1)).trans e1
      have hxx := hxr.alloc' (.cells #[.bool n, .slice a l.length c] 24)
      have HC := ref_Check n a c l _ (hi.ext hxx)
      rw [hok.2] at HC
      have HC := Lib.hid (show Calls Tryd.prog 33 _ _ fun e w' => e = .returned (.int .i64 0) ∧ Ext _ w' from HC)
      have d1 : decide (12 < (l.length : Int)) = false := by simp only [decide_eq_false_iff_not]; omega
      have g1 : (0 : Int) ≤ (k : Int) := by omega
      have g2 : (k : Int) < (L.length : Int) := by omega
      clear e0 e1 hi hok
      go_wp2_with fail
      refine HC.out.mono ?_
      rintro e w3 ⟨rfl, hy⟩
      go_wp2_with fail
      go_roundw
      case rel => exact ⟨k + 1, by omega, by go_num, hxx.trans hy⟩
      case measure => simp [intOf]; omega
    · obtain rfl : k = L.length := by omega
      go_wp2_with fail
      go_ret
      exact ⟨rfl, hxr⟩
set_option maxHeartbeats 2000000 in
theorem law_valid_no (g : Nat) (L : List BigA) (w : World) (h : BigRow w g L) (hl : L.length ≤ 100) (hno : L.any (fun x => !okA x) = true) :
    Calls Tryd.prog 28 #[.slice (some ⟨g, 0, none⟩) L.length L.length] w fun e w' => e = .returned (.bool false) ∧ Ext w w' := by
  have HH := Lib.hid h
  have HNO := Lib.hid hno
  clear h hno
  go_enter Tryd.func28, Tryd.ntmps28
  go_wp2_with fail
  go_loopw [7] (fun i wr => ∃ k : Nat, k ≤ L.length ∧ i = .int .i64 k ∧ (L.take k).any (fun x => !okA x) = false ∧ Ext w wr) (fun i _ => L.length - (intOf i).toNat)
  case atStart => exact ⟨0, Nat.zero_le _, rfl, rfl, Ext.refl _⟩
  case round =>
    obtain ⟨k, hk, rfl, hpre, hxr⟩ := hrel
    have HP := Lib.hid hpre
    clear hpre
    by_cases hkn : k < L.length
    · have e0 := HH.out.c0 k hkn
      have e1 := HH.out.c1 k hkn
      have hi := HH.out.i k hkn
      have htk := Lib.hid (take_get (List.getElem?_eq_getElem hkn))
      generalize L[k] = X at *
      obtain ⟨n, a, c, l⟩ := X
      dsimp only at e0 e1 hi
      have c0 := (hxr.cell (p := ⟨g, k * 2, none⟩) (lt_of_cell e0)).trans e0
      have c1 := (hxr.cell (p := ⟨g, k * 2 + 1, none⟩) (lt_of_cell e1)).trans e1
      have hxx := hxr.alloc' (.cells #[.bool n, .slice a l.length c] 24)
      have HC := ref_Check n a c l _ (hi.ext hxx)
      have g1 : (0 : Int) ≤ (k : Int) := by omega
      have g2 : (k : Int) < (L.length : Int) := by omega
      clear e0 e1 hi
      by_cases hlen : 12 < l.length
      · have d1 : decide (12 < (l.length : Int)) = true := by simp only [decide_eq_true_eq]; omega
        clear HC
        go_wp2_with fail
        go_ret
        exact ⟨rfl, hxx⟩
      · have d1 : decide (12 < (l.length : Int)) = false := by simp only [decide_eq_false_iff_not]; omega
        cases hk : chkB n l with
        | false =>
          rw [hk] at HC
          have HC := Lib.hid (show Calls Tryd.prog 33 _ _ fun e w' => e = .returned (.int .i64 90) ∧ Ext _ w' from HC)
          clear hk
          go_wp2_with fail
          refine HC.out.mono ?_
          rintro e w3 ⟨rfl, hy⟩
          go_wp2_with fail
          go_ret
          exact ⟨rfl, hxx.trans hy⟩
        | true =>
          rw [hk] at HC
          have HQ := Lib.hid (show okA ⟨n, a, c, l⟩ = true by unfold okA; rw [hk, decide_eq_true (show l.length ≤ 12 by omega)]; rfl)
          have HC := Lib.hid (show Calls Tryd.prog 33 _ _ fun e w' => e = .returned (.int .i64 0) ∧ Ext _ w' from HC)
          clear hk
          go_wp2_with fail
          refine HC.out.mono ?_
          rintro e w3 ⟨rfl, hy⟩
          go_wp2_with fail
          go_roundw
          case rel => exact ⟨k + 1, by omega, by go_num, by rw [htk.out, List.any_append, HP.out]; simp [HQ.out], hxx.trans hy⟩
          case measure => simp [intOf]; omega
    · obtain rfl : k = L.length := by omega
      exfalso
      have := HP.out
      rw [List.take_length, HNO.out] at this
      cases this
end Go.Proofs.YtpaaanbcadlhiaaDoor
