import Derived.Test.YtmkleegfbapakaaEFn
import Derived.Test.YtmkleegfbapakaaECnt
namespace Go.Proofs.Ytmkleegfbapakaa
open Go.RowKit Go BigFrame Go.Shelf
set_option maxRecDepth 100000
set_option linter.unusedSimpArgs false

/-- The error of the reference's lists. -/
def listsE (la lb : Nat) : Int := if 8 < la ∨ 8 < lb then 2 else if la ≠ lb then 1 else 0
theorem ref_lists (a a2 : Option Addr) (la lb cap cap2 : Nat) (w : World) :
    Calls Try.prog 67 #[.slice a la cap, .slice a2 lb cap2] w fun e w' => e = .returned (.int .i64 (listsE la lb)) ∧ w = w' := by
  unfold listsE
  by_cases h1 : 8 < la
  · have d1 : decide (8 < (la : Int)) = true := by simp; omega
    rw [if_pos (.inl h1)]
    go_enter Try.func67, Try.ntmps67
    go_wp2_with fail
    go_ret
    exact ⟨rfl, rfl⟩
  · have d1 : decide (8 < (la : Int)) = false := by simp; omega
    by_cases h2 : 8 < lb
    · have d2 : decide (8 < (lb : Int)) = true := by simp; omega
      rw [if_pos (.inr h2)]
      go_enter Try.func67, Try.ntmps67
      go_wp2_with fail
      go_ret
      exact ⟨rfl, rfl⟩
    · have d2 : decide (8 < (lb : Int)) = false := by simp; omega
      rw [if_neg (fun h => h.elim h1 h2)]
      by_cases h3 : la = lb
      · subst h3
        rw [if_neg (fun h => h rfl)]
        go_enter Try.func67, Try.ntmps67
        go_wp2_with fail
        go_ret
        exact ⟨rfl, rfl⟩
      · have d3 : ((la : Int) != (lb : Int)) = true := by simp; omega
        rw [if_pos h3]
        go_enter Try.func67, Try.ntmps67
        go_wp2_with fail
        go_ret
        exact ⟨rfl, rfl⟩

theorem ref_inside (a : Option Addr) (cap : Nat) (l : List Int) (w : World) (h : Ints w a cap l) :
    Calls Try.prog 61 #[.slice a l.length cap] w fun e w' => e = .returned (.bool (!l.any outB)) ∧ w = w' := by
  have hle := h.le
  have hmx := h.mx
  obtain ⟨B, hB⟩ : ∃ B, l.any outB = B := ⟨_, rfl⟩
  rw [hB]
  have HB := Lib.hid hB
  clear hB
  go_enter Try.func61, Try.ntmps61
  go_wp2_with fail
  go_loop [3] (fun i => ∃ k : Nat, k ≤ l.length ∧ i = .int .i64 k ∧ (l.take k).any outB = false) (fun i => l.length - (intOf i).toNat)
  case atStart => exact ⟨0, Nat.zero_le _, rfl, rfl⟩
  case round =>
    obtain ⟨k, hk, rfl, hno⟩ := hrel
    have HNO := Lib.hid hno
    clear hno
    by_cases hkn : k < l.length
    · obtain ⟨b, o, rfl⟩ := h.head hkn
      obtain ⟨x, hx, hc, _⟩ := Ints.get h hkn
      have hT := Lib.hid (take_get hx)
      have hM := Lib.hid (List.mem_of_getElem? hx)
      have g1 : (0 : Int) ≤ (k : Int) := by omega
      have g2 : (k : Int) < (l.length : Int) := by omega
      clear hx
      by_cases h1 : x < -1048576
      · have d1 : decide (x < -1048576) = true := by simpa using h1
        have : B = true := by rw [← HB.out, List.any_eq_true]; exact ⟨x, hM.out, by simp [outB, h1]⟩
        subst this
        go_wp2_with fail
        go_ret
        exact ⟨rfl, rfl⟩
      · have d1 : decide (x < -1048576) = false := by simpa using h1
        by_cases h2 : 1048576 < x
        · have d2 : decide (1048576 < x) = true := by simpa using h2
          have : B = true := by rw [← HB.out, List.any_eq_true]; exact ⟨x, hM.out, by simp [outB, h2]⟩
          subst this
          go_wp2_with fail
          go_ret
          exact ⟨rfl, rfl⟩
        · have d2 : decide (1048576 < x) = false := by simpa using h2
          have ho : outB x = false := by rw [outB, d1, d2]; rfl
          have Ho := Lib.hid ho
          clear ho
          go_wp2_with fail
          go_round
          case rel => exact ⟨k + 1, by omega, by go_num, by rw [hT.out, List.any_append, HNO.out]; simp [Ho.out]⟩
          case measure => simp [intOf]; omega
    · obtain rfl : k = l.length := by omega
      have : B = false := by have := HNO.out; rw [List.take_length, HB.out] at this; exact this
      subst this
      go_wp2_with fail
      go_ret
      exact ⟨rfl, rfl⟩

theorem ref37_has (a : Option Addr) (cap : Nat) (l : List Int) (x : Int) (w : World) (h : Ints w a cap l) :
    Calls Try.prog 101 #[.slice a l.length cap, .int .i64 x] w fun e w' => e = .returned (.bool (decide (x ∈ l))) ∧ w = w' := by
  have hle := h.le
  have hmx := h.mx
  obtain ⟨B, hB⟩ : ∃ B, decide (x ∈ l) = B := ⟨_, rfl⟩
  rw [hB]
  have HB := Lib.hid hB
  clear hB
  go_enter Try.func101, Try.ntmps101
  go_wp2_with fail
  go_loop [5] (fun i => ∃ k : Nat, k ≤ l.length ∧ i = .int .i64 k ∧ x ∉ l.take k) (fun i => l.length - (intOf i).toNat)
  case atStart => exact ⟨0, Nat.zero_le _, rfl, by simp⟩
  case round =>
    obtain ⟨k, hk, rfl, hno⟩ := hrel
    have HNO := Lib.hid hno
    clear hno
    by_cases hkn : k < l.length
    · obtain ⟨b, o, rfl⟩ := h.head hkn
      obtain ⟨y, hx, hc, _⟩ := Ints.get h hkn
      have hT := Lib.hid (take_get hx)
      have hM := Lib.hid (List.mem_of_getElem? hx)
      have g1 : (0 : Int) ≤ (k : Int) := by omega
      have g2 : (k : Int) < (l.length : Int) := by omega
      clear hx
      by_cases h1 : y = x
      · subst h1
        have : B = true := by rw [← HB.out]; simpa using hM.out
        subst this
        go_wp2_with fail
        go_ret
        exact ⟨rfl, rfl⟩
      · have d1 : (y == x) = false := by simpa using h1
        have H1 := Lib.hid h1
        clear h1
        go_wp2_with fail
        go_round
        case rel => exact ⟨k + 1, by omega, by go_num, by rw [hT.out, List.mem_append, not_or]; exact ⟨HNO.out, fun h => H1.out (by simp at h; exact h.symm)⟩⟩
        case measure => simp [intOf]; omega
    · obtain rfl : k = l.length := by omega
      have : B = false := by have := HNO.out; rw [List.take_length] at this; rw [← HB.out]; simpa using this
      subst this
      go_wp2_with fail
      go_ret
      exact ⟨rfl, rfl⟩
end Go.Proofs.Ytmkleegfbapakaa
