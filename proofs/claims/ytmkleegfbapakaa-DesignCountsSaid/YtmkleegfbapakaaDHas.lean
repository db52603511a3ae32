import Derived.Test.YtmkleegfbapakaaBase
import Derived.Test.YtmkleegfbapakaaDSpec
namespace Go.Proofs.Ytmkleegfbapakaa
open Go.RowKit Go D28
set_option maxRecDepth 100000

theorem take_get {α : Type} {l : List α} {k : Nat} {y : α} (h : l[k]? = some y) : l.take (k + 1) = l.take k ++ [y] := by
  obtain ⟨hlt, he⟩ := List.getElem?_eq_some_iff.1 h
  rw [List.take_succ_eq_append_getElem hlt, he]

theorem refHas (a : Option Addr) (cap : Nat) (l : List Int) (x : Int) (w : World) (h : Ints w a cap l) :
    Calls Try.prog 55 #[.slice a l.length cap, .int .i64 x] w fun e w' => e = .returned (.bool (decide (x ∈ l))) ∧ w = w' := by
  have hle := h.le
  have hmx := h.mx
  go_enter Try.func55, Try.ntmps55
  go_wp2
  go_loop [5] (fun i => ∃ k : Nat, k ≤ l.length ∧ i = .int .i64 k ∧ x ∉ l.take k) (fun i => l.length - (intOf i).toNat)
  case atStart => exact ⟨0, Nat.zero_le _, rfl, by simp⟩
  case round =>
    obtain ⟨k, hk, rfl, hx⟩ := hrel
    have HX := Lib.hid hx
    clear hx
    by_cases hlt : k < l.length
    · obtain ⟨b, o, rfl⟩ := h.head hlt
      obtain ⟨y, hy, hc, _, _⟩ := Ints.get h hlt
      have HY := Lib.hid hy
      clear hy
      go_wp2
      · have ht : (y == x) = true := by assumption
        go_ret
        refine ⟨ret_bool ?_, rfl⟩
        have hm : x ∈ l := (by simpa using ht : y = x) ▸ List.mem_of_getElem? HY.out
        simp [hm]
      · have ht : (y == x) = false := by assumption
        go_round
        case rel =>
          refine ⟨k + 1, by omega, by go_num, ?_⟩
          have : ¬ y = x := by simpa using ht
          rw [take_get HY.out, List.mem_append]
          simp only [List.mem_singleton]
          exact fun hh => hh.elim HX.out (fun e => this e.symm)
        case measure => simp [intOf]; omega
    · go_wp2
      go_ret
      have := HX.out
      rw [List.take_of_length_le (by omega)] at this
      exact ⟨ret_bool (by simp [this]), rfl⟩

theorem load_take {ps : List (List Int)} {j : Int} {k : Nat} {r : List Int} (h : ps[k]? = some r) : dLoad (ps.take (k + 1)) j = dLoad (ps.take k) j + if j ∈ r then 1 else 0 := by
  rw [take_get h, dLoad, dLoad, List.countP_append]
  simp [List.countP_cons]
theorem load_le (ps : List (List Int)) (j : Int) : dLoad ps j ≤ ps.length := List.countP_le_length

theorem refLoad (a : Option Addr) (cap : Nat) (ps : List (List Int)) (x : Int) (w : World) (h : Rows w a cap ps) :
    Calls Try.prog 24 #[.slice a ps.length cap, .int .i64 x] w fun e w' => e = .returned (.int .i64 (dLoad ps x)) ∧ w = w' := by
  have hle := h.le
  have hmx := h.mx
  go_enter Try.func24, Try.ntmps24
  go_wp2
  go_loop [5, 6] (fun n i => ∃ k : Nat, k ≤ ps.length ∧ i = .int .i64 k ∧ n = .int .i64 (dLoad (ps.take k) x)) (fun _ i => ps.length - (intOf i).toNat)
  case atStart => exact ⟨0, Nat.zero_le _, rfl, by simp [dLoad]⟩
  case round =>
    obtain ⟨k, hk, rfl, rfl⟩ := hrel
    have hl1 := load_le (ps.take k) x
    have hl2 : (ps.take k).length ≤ k := List.length_take_le _ _
    by_cases hlt : k < ps.length
    · obtain ⟨b, o, rfl⟩ := h.head hlt
      obtain ⟨r, a', c', hy, hc, hrow⟩ := Rows.get h hlt
      have HY := Lib.hid (load_take (j := x) hy)
      clear hy
      by_cases hm : x ∈ r
      · go_wp2_with (go_at_call 55; refine (refHas _ _ _ _ _ hrow).mono ?_; rintro e w' ⟨rfl, rfl⟩)
        go_round
        case rel =>
          refine ⟨k + 1, by omega, by go_num, ?_⟩
          rw [HY.out, if_pos hm]; go_num
        case measure => simp [intOf]; omega
      · go_wp2_with (go_at_call 55; refine (refHas _ _ _ _ _ hrow).mono ?_; rintro e w' ⟨rfl, rfl⟩)
        go_round
        case rel =>
          refine ⟨k + 1, by omega, by go_num, ?_⟩
          rw [HY.out, if_neg hm]; rfl
        case measure => simp [intOf]; omega
    · go_wp2
      go_ret
      exact ⟨ret_int (by rw [List.take_of_length_le (by omega)]), rfl⟩

theorem common_take {l m : List Int} {k : Nat} {r : Int} (h : l[k]? = some r) : dCommon (l.take (k + 1)) m = dCommon (l.take k) m + if r ∈ m then 1 else 0 := by
  rw [take_get h, dCommon, dCommon, List.countP_append]
  simp [List.countP_cons]
theorem common_le (l m : List Int) : dCommon l m ≤ l.length := List.countP_le_length

theorem refCommon (a a2 : Option Addr) (cap cap2 : Nat) (l m : List Int) (w : World) (h : Ints w a cap l) (h2 : Ints w a2 cap2 m) :
    Calls Try.prog 25 #[.slice a l.length cap, .slice a2 m.length cap2] w fun e w' => e = .returned (.int .i64 (dCommon l m)) ∧ w = w' := by
  have hle := h.le
  have hmx := h.mx
  go_enter Try.func25, Try.ntmps25
  go_wp2
  go_loop [5, 6] (fun n i => ∃ k : Nat, k ≤ l.length ∧ i = .int .i64 k ∧ n = .int .i64 (dCommon (l.take k) m)) (fun _ i => l.length - (intOf i).toNat)
  case atStart => exact ⟨0, Nat.zero_le _, rfl, by simp [dCommon]⟩
  case round =>
    obtain ⟨k, hk, rfl, rfl⟩ := hrel
    have hl1 := common_le (l.take k) m
    have hl2 : (l.take k).length ≤ k := List.length_take_le _ _
    by_cases hlt : k < l.length
    · obtain ⟨b, o, rfl⟩ := h.head hlt
      obtain ⟨r, hy, hc, _, _⟩ := Ints.get h hlt
      have HY := Lib.hid (common_take (m := m) hy)
      clear hy
      by_cases hm : r ∈ m
      · go_wp2_with (go_at_call 55; refine (refHas _ _ _ _ _ h2).mono ?_; rintro e w' ⟨rfl, rfl⟩)
        go_round
        case rel =>
          refine ⟨k + 1, by omega, by go_num, ?_⟩
          rw [HY.out, if_pos hm]; go_num
        case measure => simp [intOf]; omega
      · go_wp2_with (go_at_call 55; refine (refHas _ _ _ _ _ h2).mono ?_; rintro e w' ⟨rfl, rfl⟩)
        go_round
        case rel =>
          refine ⟨k + 1, by omega, by go_num, ?_⟩
          rw [HY.out, if_neg hm]; rfl
        case measure => simp [intOf]; omega
    · go_wp2
      go_ret
      exact ⟨ret_int (by rw [List.take_of_length_le (by omega)]), rfl⟩
end Go.Proofs.Ytmkleegfbapakaa
