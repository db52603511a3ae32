import Derived.Test.YtnpeakahiedeoaaGreatDoorQL0
namespace Go.Proofs.YtnpeakahiedeoaaGreatDoor
open Go.RowKit Go BigFrame
set_option maxRecDepth 100000
set_option linter.unusedSimpArgs false
set_option linter.unusedVariables false

/-! law10.few. -/
def fewL (x : RatA) : Bool := decide (x.l.length ≤ 6) && (decide (x.m.length ≤ 6) && x.ok)
set_option maxHeartbeats 2000000 in
theorem law_few (g : Nat) (L : List RatA) (w : World) (h : RatRow w g L) (hl : L.length ≤ 100) (hb : ∀ x ∈ L, x.l.length ≤ 9223372036854775807 ∧ x.m.length ≤ 9223372036854775807) :
    Calls Tryz.prog 24 #[.slice (some ⟨g, 0, none⟩) L.length L.length] w fun e w' => e = .returned (.bool (L.all fewL)) ∧ Ext w w' := by
  have HH := Lib.hid h
  have HB := Lib.hid hb
  clear h hb
  go_enter Tryz.func24, Tryz.ntmps24
  go_wp2_with fail
  go_loopw [7] (fun i wr => ∃ k : Nat, k ≤ L.length ∧ i = .int .i64 k ∧ (L.take k).all fewL = true ∧ Ext w wr) (fun i _ => L.length - (intOf i).toNat)
  case atStart => exact ⟨0, Nat.zero_le _, rfl, rfl, Ext.refl _⟩
  case round =>
    obtain ⟨k, hk, rfl, hpre, hxr⟩ := hrel
    have HP := Lib.hid hpre
    clear hpre
    by_cases hkn : k < L.length
    · have e0 := HH.out.c0 k hkn
      have e1 := HH.out.c1 k hkn
      have e2 := HH.out.c2 k hkn
      have e3 := HH.out.c3 k hkn
      have hi := HH.out.i k hkn
      have hj := HH.out.j k hkn
      obtain ⟨b1, b2⟩ := HB.out L[k] (List.getElem_mem hkn)
      have htk := Lib.hid (take_getQ (List.getElem?_eq_getElem hkn))
      have hmem := Lib.hid (List.getElem_mem hkn)
      generalize L[k] = X at *
      obtain ⟨n, a, c, l, n2, b, d, m⟩ := X
      dsimp only at e0 e1 e2 e3 hi hj b1 b2
      have c0 := (hxr.cell (p := ⟨g, k * 4, none⟩) (lt_of_cell e0)).trans e0
      have c1 := (hxr.cell (p := ⟨g, k * 4 + 1, none⟩) (lt_of_cell e1)).trans e1
      have c2 := (hxr.cell (p := ⟨g, k * 4 + 2, none⟩) (lt_of_cell e2)).trans e2
      have c3 := (hxr.cell (p := ⟨g, k * 4 + 3, none⟩) (lt_of_cell e3)).trans e3
      have hxx := hxr.alloc' (.cells #[.bool n, .slice a l.length c, .bool n2, .slice b m.length d] 26)
      have HC := refR_Check n n2 a b c d l m _ (hi.ext hxx) (hj.ext hxx)
      have g1 : (0 : Int) ≤ (k : Int) := by omega
      have g2 : (k : Int) < (L.length : Int) := by omega
      clear e0 e1 e2 e3 hi hj
      by_cases f1 : l.length ≤ 6
      · have f1' : ¬ (6 < (l.length : Int)) := by omega
        by_cases f2 : m.length ≤ 6
        · have f2' : ¬ (6 < (m.length : Int)) := by omega
          cases hq : okR n l n2 m
          · rw [hq] at HC
            have HA := Lib.hid (List.all_eq_false.2 ⟨_, hmem.out, (by simp [fewL, RatA.ok, hq])⟩ : L.all fewL = false)
            clear hq
            have HC := Lib.hid (show Calls Tryz.prog 19 _ _ fun e w' => e = .returned (.int .i64 100) ∧ Ext _ w' from HC)
            go_wp2_with fail
            refine HC.out.mono ?_
            rintro e w3 ⟨rfl, hy⟩
            go_wp2_with fail
            go_ret
            exact ⟨by rw [HA.out]; rfl, hxx.trans hy⟩
          · rw [hq] at HC
            have HA := Lib.hid (by simp [fewL, RatA.ok, hq, f1, f2] : fewL ⟨n, a, c, l, n2, b, d, m⟩ = true)
            clear hq
            have HC := Lib.hid (show Calls Tryz.prog 19 _ _ fun e w' => e = .returned (.int .i64 0) ∧ Ext _ w' from HC)
            go_wp2_with fail
            refine HC.out.mono ?_
            rintro e w3 ⟨rfl, hy⟩
            go_wp2_with fail
            go_roundw
            case rel => exact ⟨k + 1, by omega, by go_num, by rw [htk.out, List.all_append, HP.out]; simp [HA.out], hxx.trans hy⟩
            case measure => simp [intOf]; omega
        · have f2' : 6 < (m.length : Int) := by omega
          have HA := Lib.hid (List.all_eq_false.2 ⟨_, hmem.out, (by simp [fewL, f2])⟩ : L.all fewL = false)
          clear HC
          go_wp2_with fail
          go_ret
          exact ⟨by rw [HA.out]; rfl, hxx⟩
      · have f1' : 6 < (l.length : Int) := by omega
        have HA := Lib.hid (List.all_eq_false.2 ⟨_, hmem.out, (by simp [fewL, f1])⟩ : L.all fewL = false)
        clear HC
        go_wp2_with fail
        go_ret
        exact ⟨by rw [HA.out]; rfl, hxx⟩
    · obtain rfl : k = L.length := by omega
      go_wp2_with fail
      go_ret
      have := HP.out
      rw [List.take_length] at this
      exact ⟨by rw [this]; rfl, hxr⟩
end Go.Proofs.YtnpeakahiedeoaaGreatDoor
