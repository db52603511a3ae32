import Derived.Test.YtmkleegfbapakaaDMeas
namespace Go.Proofs.Ytmkleegfbapakaa
open Go.RowKit Go D28 BigFrame
set_option maxRecDepth 100000

def fewB (J : Int) (bad : List (List Bool)) (ps : List (List Int)) : Bool :=
  !(decide (20 < J ∧ J ≤ 256)) && decide (bad.length ≤ 12 ∧ ps.length ≤ 14) && bad.all (fun r => decide (r.length ≤ 300)) && ps.all (fun r => decide (r.length ≤ 30))
theorem all_take {α : Type} {p : α → Bool} {l : List α} {k : Nat} {x : α} (h : (l.take k).all p = true) (hk : l[k]? = some x) (hx : p x = true) : (l.take (k + 1)).all p = true := by
  rw [take_get hk, List.all_append, h]; simp [hx]
theorem all_no {α : Type} {p : α → Bool} {l : List α} {k : Nat} {x : α} (hk : l[k]? = some x) (hx : p x = false) : l.all p = false := by
  rw [List.all_eq_false]; exact ⟨x, List.mem_of_getElem? hk, by simp [hx]⟩
theorem fewB_yes {J : Int} {bad : List (List Bool)} {ps : List (List Int)} (h : fewB J bad ps = true) : ¬ (20 < J ∧ J ≤ 256) ∧ bad.length ≤ 12 ∧ ps.length ≤ 14 := by
  simp only [fewB, Bool.and_eq_true, Bool.not_eq_true', decide_eq_true_eq, decide_eq_false_iff_not] at h
  exact ⟨h.1.1.1, h.1.1.2⟩

set_option maxHeartbeats 1000000 in
theorem refFew (J S N : Int) (a : Option Addr) (cap : Nat) (bad : List (List Bool)) (a2 : Option Addr) (cap2 : Nat) (ps : List (List Int)) (w : World) (h : BRows w a cap bad) (h2 : Rows w a2 cap2 ps) :
    Calls Try.prog 16 #[.agg #[.int .i64 J, .int .i64 S, .int .i64 N, .slice a bad.length cap], .slice a2 ps.length cap2] w fun e w' => e = .returned (.bool (fewB J bad ps)) ∧ Ext w w' := by
  have hle := h.le
  have hmx := h.mx
  have hle2 := h2.le
  have hmx2 := h2.mx
  have hb0 := h.ext (Ext.alloc w (.cells #[.int .i64 J, .int .i64 S, .int .i64 N, .slice a bad.length cap] 24))
  have hp0 := h2.ext (Ext.alloc w (.cells #[.int .i64 J, .int .i64 S, .int .i64 N, .slice a bad.length cap] 24))
  by_cases hc : ¬ (20 < J ∧ J ≤ 256) ∧ bad.length ≤ 12 ∧ ps.length ≤ 14
  · have HC := Lib.hid hc
    obtain ⟨c0, c1, c2⟩ := hc
    have cJ : J ≤ 20 ∨ 256 < J := by omega
    have q1 : decide ((12 : Int) < (bad.length : Int)) = false := by simp; omega
    have q2 : decide ((14 : Int) < (ps.length : Int)) = false := by simp; omega
    have main : ∀ (d1 d2 : Bool), decide (20 < J) = d1 → decide (J ≤ 256) = d2 → (d1 && d2) = false →
        Calls Try.prog 16 #[.agg #[.int .i64 J, .int .i64 S, .int .i64 N, .slice a bad.length cap], .slice a2 ps.length cap2] w fun e w' => e = .returned (.bool (fewB J bad ps)) ∧ Ext w w' := by
      intro d1 d2 e1 e2 e3
      clear cJ c0
      have A0 : fewB J bad ps = (bad.all (fun r => decide (r.length ≤ 300)) && ps.all (fun r => decide (r.length ≤ 30))) := by
        have := HC.out
        simp only [fewB]
        rw [decide_eq_false this.1, decide_eq_true this.2]; rfl
      have AH := Lib.hid A0
      clear A0
      cases d1 <;> cases d2 <;> try (exact absurd e3 (by decide))
      all_goals
        go_enter Try.func16, Try.ntmps16
        go_wp2
        go_loop [5] (fun i => ∃ k : Nat, k ≤ bad.length ∧ i = .int .i64 k ∧ (bad.take k).all (fun r => decide (r.length ≤ 300)) = true) (fun i => bad.length - (intOf i).toNat)
        case atStart => exact ⟨0, Nat.zero_le _, rfl, rfl⟩
        case round =>
          obtain ⟨k, hk, rfl, hf⟩ := hrel
          have HF := Lib.hid hf
          clear hf
          by_cases hlt : k < bad.length
          · obtain ⟨b, o, rfl⟩ := h.head hlt
            obtain ⟨r, ra, rc, hr, hcell, hrow⟩ := BRows.get hb0 hlt
            have HX := Lib.hid hr
            clear hr
            by_cases c3 : 300 < r.length
            · have d3 : decide ((300 : Int) < (r.length : Int)) = true := by simp; omega
              go_wp2
              go_ret
              exact ⟨ret_bool (by rw [AH.out, all_no HX.out (by simp; omega)]; rfl), (by repeat (first | with_reducible exact Ext.refl _ | with_reducible assumption | with_reducible refine Ext.drewN ?_ _ | with_reducible refine Ext.drew ?_ | with_reducible refine Ext.alloc' ?_ _ | with_reducible refine Ext.set ?_ (by dsimp only; omega) _))⟩
            · have d3 : decide ((300 : Int) < (r.length : Int)) = false := by simp; omega
              go_wp2
              go_round
              case rel => exact ⟨k + 1, by omega, by go_num, all_take HF.out HX.out (by simp; omega)⟩
              case measure => simp [intOf]; omega
          · have HB := Lib.hid (by have := HF.out; rwa [List.take_of_length_le (by omega)] at this : bad.all (fun r => decide (r.length ≤ 300)) = true)
            go_wp2
            go_loop [6] (fun i => ∃ k : Nat, k ≤ ps.length ∧ i = .int .i64 k ∧ (ps.take k).all (fun r => decide (r.length ≤ 30)) = true) (fun i => ps.length - (intOf i).toNat)
            case atStart => exact ⟨0, Nat.zero_le _, rfl, rfl⟩
            case round =>
              obtain ⟨q, hq, rfl, hf⟩ := hrel
              have HG := Lib.hid hf
              clear hf
              by_cases hqt : q < ps.length
              · obtain ⟨b, o, rfl⟩ := h2.head hqt
                obtain ⟨r, ra, rc, hr, hcell, hrow⟩ := Rows.get hp0 hqt
                have HX := Lib.hid hr
                clear hr
                by_cases c3 : 30 < r.length
                · have d3 : decide ((30 : Int) < (r.length : Int)) = true := by simp; omega
                  go_wp2
                  go_ret
                  exact ⟨ret_bool (by rw [AH.out, all_no (l := ps) HX.out (by simp; omega)]; simp), (by repeat (first | with_reducible exact Ext.refl _ | with_reducible assumption | with_reducible refine Ext.drewN ?_ _ | with_reducible refine Ext.drew ?_ | with_reducible refine Ext.alloc' ?_ _ | with_reducible refine Ext.set ?_ (by dsimp only; omega) _))⟩
                · have d3 : decide ((30 : Int) < (r.length : Int)) = false := by simp; omega
                  go_wp2
                  go_round
                  case rel => exact ⟨q + 1, by omega, by go_num, all_take HG.out HX.out (by simp; omega)⟩
                  case measure => simp [intOf]; omega
              · go_wp2
                go_ret
                exact ⟨ret_bool (by rw [AH.out, HB.out]; have := HG.out; rw [List.take_of_length_le (by omega)] at this; rw [this]; rfl), (by repeat (first | with_reducible exact Ext.refl _ | with_reducible assumption | with_reducible refine Ext.drewN ?_ _ | with_reducible refine Ext.drew ?_ | with_reducible refine Ext.alloc' ?_ _ | with_reducible refine Ext.set ?_ (by dsimp only; omega) _))⟩
    rcases cJ with cJ | cJ
    · by_cases c9 : J ≤ 256
      · exact main false true (by simp; omega) (by simp; omega) rfl
      · omega
    · exact main true false (by simp; omega) (by simp; omega) rfl
  · have HN := Lib.hid (by simp only [fewB]; by_cases z : 20 < J ∧ J ≤ 256; · rw [decide_eq_true z]; rfl
                           · rw [decide_eq_false (fun q : bad.length ≤ 12 ∧ ps.length ≤ 14 => hc ⟨z, q⟩)]; simp : fewB J bad ps = false)
    by_cases z0 : 20 < J
    · by_cases z1 : J ≤ 256
      · have q0 : decide (20 < J) = true := by simpa using z0
        have q1 : decide (J ≤ 256) = true := by simpa using z1
        go_enter Try.func16, Try.ntmps16
        go_wp2
        go_ret
        exact ⟨ret_bool HN.out.symm, (by repeat (first | with_reducible exact Ext.refl _ | with_reducible assumption | with_reducible refine Ext.drewN ?_ _ | with_reducible refine Ext.drew ?_ | with_reducible refine Ext.alloc' ?_ _ | with_reducible refine Ext.set ?_ (by dsimp only; omega) _))⟩
      · have q0 : decide (20 < J) = true := by simpa using z0
        have q1 : decide (J ≤ 256) = false := by simpa using z1
        by_cases z2 : bad.length ≤ 12
        · have q2 : decide ((12 : Int) < (bad.length : Int)) = false := by simp; omega
          have q3 : decide ((14 : Int) < (ps.length : Int)) = true := by simp; omega
          clear hc
          go_enter Try.func16, Try.ntmps16
          go_wp2
          go_ret
          exact ⟨ret_bool HN.out.symm, (by repeat (first | with_reducible exact Ext.refl _ | with_reducible assumption | with_reducible refine Ext.drewN ?_ _ | with_reducible refine Ext.drew ?_ | with_reducible refine Ext.alloc' ?_ _ | with_reducible refine Ext.set ?_ (by dsimp only; omega) _))⟩
        · have q2 : decide ((12 : Int) < (bad.length : Int)) = true := by simp; omega
          clear hc
          go_enter Try.func16, Try.ntmps16
          go_wp2
          go_ret
          exact ⟨ret_bool HN.out.symm, (by repeat (first | with_reducible exact Ext.refl _ | with_reducible assumption | with_reducible refine Ext.drewN ?_ _ | with_reducible refine Ext.drew ?_ | with_reducible refine Ext.alloc' ?_ _ | with_reducible refine Ext.set ?_ (by dsimp only; omega) _))⟩
    · have q0 : decide (20 < J) = false := by simpa using z0
      by_cases z2 : bad.length ≤ 12
      · have q2 : decide ((12 : Int) < (bad.length : Int)) = false := by simp; omega
        have q3 : decide ((14 : Int) < (ps.length : Int)) = true := by simp; omega
        clear hc
        go_enter Try.func16, Try.ntmps16
        go_wp2
        go_ret
        exact ⟨ret_bool HN.out.symm, (by repeat (first | with_reducible exact Ext.refl _ | with_reducible assumption | with_reducible refine Ext.drewN ?_ _ | with_reducible refine Ext.drew ?_ | with_reducible refine Ext.alloc' ?_ _ | with_reducible refine Ext.set ?_ (by dsimp only; omega) _))⟩
      · have q2 : decide ((12 : Int) < (bad.length : Int)) = true := by simp; omega
        clear hc
        go_enter Try.func16, Try.ntmps16
        go_wp2
        go_ret
        exact ⟨ret_bool HN.out.symm, (by repeat (first | with_reducible exact Ext.refl _ | with_reducible assumption | with_reducible refine Ext.drewN ?_ _ | with_reducible refine Ext.drew ?_ | with_reducible refine Ext.alloc' ?_ _ | with_reducible refine Ext.set ?_ (by dsimp only; omega) _))⟩
end Go.Proofs.Ytmkleegfbapakaa
