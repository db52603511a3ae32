import Derived.Test.YtpaaanbcadlhiaaDoorPRef3
namespace Go.Proofs.YtpaaanbcadlhiaaDoor
open Go.RowKit Go BigFrame Go.Shelf
set_option maxRecDepth 100000
set_option linter.unusedSimpArgs false

theorem ref_Check_long (neg : Bool) (a : Option Addr) (cap : Nat) (l : List Int) (w : World) (h : Ints w a cap l) (hl : 2048 < l.length) :
    Calls Tryd.prog 33 #[.agg #[.bool neg, .slice a l.length cap]] w fun e w' => e = .returned (.int .i64 (errN (chkB neg l))) ∧ Ext w w' := by
  have hle := h.le
  have hmx := h.mx
  have hx := Ext.alloc w (.cells #[.bool neg, .slice a l.length cap] 24)
  have B1 := Lib.hid (Blk.new0 w #[.bool neg, .slice a l.length cap] 24)
  have c1 := B1.out.cell (i := 0) (v := .bool neg) rfl
  have c2 := B1.out.cell (i := 1) (v := .slice a l.length cap) rfl
  have e1 : decide (2048 < (l.length : Int)) = true := by simp only [decide_eq_true_eq]; omega
  have HE := Lib.hid (show errN (chkB neg l) = 90 by unfold chkB; rw [decide_eq_false (show ¬ l.length ≤ 2048 by omega)]; rfl)
  go_enter Tryd.func33, Tryd.ntmps33
  go_upto_region 1 with fail
  generalize w.alloc (.cells #[.bool neg, .slice a l.length cap] 24) = w1 at *
  go_wp2_with fail
  go_ret
  exact ⟨by rw [HE.out]; rfl, hx⟩
theorem any_of_get {l : List Int} {k : Nat} {x : Int} {p : Int → Bool} (h : l[k]? = some x) (hp : p x = true) : l.any p = true := List.any_eq_true.2 ⟨x, List.mem_of_getElem? h, hp⟩
theorem ref_Check_nil (neg : Bool) (a : Option Addr) (cap : Nat) (w : World) :
    Calls Tryd.prog 33 #[.agg #[.bool neg, .slice a 0 cap]] w fun e w' => e = .returned (.int .i64 (errN (chkB neg []))) ∧ Ext w w' := by
  have hx := Ext.alloc w (.cells #[.bool neg, .slice a 0 cap] 24)
  have B1 := Lib.hid (Blk.new0 w #[.bool neg, .slice a 0 cap] 24)
  have c1 := B1.out.cell (i := 0) (v := .bool neg) rfl
  have c2 := B1.out.cell (i := 1) (v := .slice a 0 cap) rfl
  cases neg with
  | true =>
    go_enter Tryd.func33, Tryd.ntmps33
    go_upto_region 1 with fail
    generalize w.alloc (.cells #[.bool true, .slice a 0 cap] 24) = w1 at *
    go_wp2_with fail
    go_ret
    exact ⟨rfl, hx⟩
  | false =>
    go_enter Tryd.func33, Tryd.ntmps33
    go_upto_region 1 with fail
    generalize w.alloc (.cells #[.bool false, .slice a 0 cap] 24) = w1 at *
    go_wp2_with fail
    go_loop [4] (fun i => i = .int .i64 0) (fun _ => 0)
    case atStart => rfl
    case round =>
      subst hrel
      go_wp2_with fail
      go_ret
      exact ⟨rfl, hx⟩
set_option maxHeartbeats 1000000 in
theorem ref_Check_pos (neg : Bool) (a : Option Addr) (cap : Nat) (l : List Int) (w : World) (h : Ints w a cap l) (hl : l.length ≤ 2048) (hp : 0 < l.length) :
    Calls Tryd.prog 33 #[.agg #[.bool neg, .slice a l.length cap]] w fun e w' => e = .returned (.int .i64 (errN (chkB neg l))) ∧ Ext w w' := by
  have hle := h.le
  have hmx := h.mx
  have hx := Ext.alloc w (.cells #[.bool neg, .slice a l.length cap] 24)
  have B1 := Lib.hid (Blk.new0 w #[.bool neg, .slice a l.length cap] 24)
  have c1 := B1.out.cell (i := 0) (v := .bool neg) rfl
  have c2 := B1.out.cell (i := 1) (v := .slice a l.length cap) rfl
  have hI := h.ext hx
  have e1 : decide (2048 < (l.length : Int)) = false := by simp only [decide_eq_false_iff_not]; omega
  have e2 : ((l.length : Int) == 0) = false := by simp only [beq_eq_false_iff_ne]; omega
  have e3 : decide (0 < (l.length : Int)) = true := by simp only [decide_eq_true_eq]; omega
  have e3' : decide (0 < l.length) = true := by simpa using hp
  have hE : chkB neg l = (decide (l.length ≤ 2048) && !(neg && decide (l.length = 0)) && !(decide (0 < l.length) && l.getD (l.length - 1) 0 == 0) && !(l.any oddB)) := rfl
  rw [decide_eq_true hl, decide_eq_false (show ¬ l.length = 0 by omega), decide_eq_true hp, Bool.and_false, Bool.not_false, Bool.true_and, Bool.true_and, Bool.true_and] at hE
  obtain ⟨j, hj⟩ : ∃ j, l.length = j + 1 := ⟨l.length - 1, by omega⟩
  obtain ⟨b, o, rfl⟩ := hI.head (i := j) (by omega)
  obtain ⟨x0, hx1, hc, _⟩ := Ints.get hI (i := j) (by omega)
  rw [show l.length - 1 = j by omega, getD_of hx1] at hE
  have e4 : (l.length : Int) - 1 = (j : Int) := by omega
  have g1 : (0 : Int) ≤ (j : Int) := by omega
  have g2 : (j : Int) < (l.length : Int) := by omega
  generalize hEE : chkB neg l = E at *
  have HX := Lib.hid hx
  have HI := Lib.hid hI
  clear hI hx1 h hEE hx hj
  by_cases h0 : x0 = 0
  · subst h0
    have HE := Lib.hid (show errN E = 90 by rw [hE]; rfl)
    clear hE
    go_enter Tryd.func33, Tryd.ntmps33
    go_upto_region 1 with fail
    generalize w.alloc (.cells #[.bool neg, .slice (some ⟨b, o, none⟩) l.length cap] 24) = w1 at *
    go_wp2_with fail
    go_ret
    exact ⟨by rw [HE.out]; rfl, HX.out⟩
  · have t0 : (x0 == 0) = false := by simpa using h0
    rw [t0, Bool.not_false, Bool.true_and] at hE
    have HE := Lib.hid hE
    clear hE h0
    go_enter Tryd.func33, Tryd.ntmps33
    go_upto_region 1 with fail
    generalize w.alloc (.cells #[.bool neg, .slice (some ⟨b, o, none⟩) l.length cap] 24) = w1 at *
    go_wp2_with fail
    clear hc
    go_loop [4] (fun i => ∃ k : Nat, k ≤ l.length ∧ i = .int .i64 k ∧ (l.take k).any oddB = false) (fun i => l.length - (intOf i).toNat)
    case atStart => exact ⟨0, Nat.zero_le _, rfl, rfl⟩
    case round =>
      obtain ⟨k, hk, rfl, hno⟩ := hrel
      have HNO := Lib.hid hno
      clear hno
      by_cases hkn : k < l.length
      · obtain ⟨x, hx1, hc, _⟩ := Ints.get HI.out hkn
        have hT := Lib.hid (take_get hx1)
        have g1 : (0 : Int) ≤ (k : Int) := by omega
        have g2 : (k : Int) < (l.length : Int) := by omega
        by_cases h1 : x < 0
        · have t1 : decide (x < 0) = true := by simpa using h1
          have HB := Lib.hid (show l.any oddB = true from any_of_get hx1 (by unfold oddB; rw [t1]; rfl))
          clear hx1 h1
          go_wp2_with fail
          go_ret
          exact ⟨by rw [HE.out, HB.out]; rfl, HX.out⟩
        · have t1 : decide (x < 0) = false := by simpa using h1
          by_cases h2 : 1073741824 ≤ x
          · have t2 : decide (1073741824 ≤ x) = true := by simpa using h2
            have HB := Lib.hid (show l.any oddB = true from any_of_get hx1 (by unfold oddB; rw [decide_eq_true (show 1073741823 < x by omega), Bool.or_true]))
            clear hx1 h1 h2
            go_wp2_with fail
            go_ret
            exact ⟨by rw [HE.out, HB.out]; rfl, HX.out⟩
          · have t2 : decide (1073741824 ≤ x) = false := by simpa using h2
            have HB := Lib.hid (show (l.take (k + 1)).any oddB = false by rw [hT.out, List.any_append, HNO.out]; simp [oddB]; omega)
            clear hx1 h1 h2
            go_wp2_with fail
            go_round
            case rel => exact ⟨k + 1, by omega, by go_num, HB.out⟩
            case measure => simp [intOf]; omega
      · obtain rfl : k = l.length := by omega
        have HB := Lib.hid (show l.any oddB = false by have := HNO.out; rwa [List.take_length] at this)
        go_wp2_with fail
        go_ret
        exact ⟨by rw [HE.out, HB.out]; rfl, HX.out⟩
theorem ref_Check (neg : Bool) (a : Option Addr) (cap : Nat) (l : List Int) (w : World) (h : Ints w a cap l) :
    Calls Tryd.prog 33 #[.agg #[.bool neg, .slice a l.length cap]] w fun e w' => e = .returned (.int .i64 (errN (chkB neg l))) ∧ Ext w w' := by
  rcases Nat.lt_or_ge 2048 l.length with h1 | h1
  · exact ref_Check_long neg a cap l w h h1
  · rcases Nat.eq_zero_or_pos l.length with h2 | h2
    · obtain rfl := List.length_eq_zero_iff.1 h2
      exact ref_Check_nil neg a cap w
    · exact ref_Check_pos neg a cap l w h h1 h2
end Go.Proofs.YtpaaanbcadlhiaaDoor
