import Derived.Test.YtmkleegfbapakaaBase
import Derived.Test.YtmkleegfbapakaaDSpec
namespace Go.Proofs.Ytmkleegfbapakaa
open Go.RowKit Go D28
set_option maxRecDepth 100000

theorem lo_take {x y : Int} {l : List Int} {k : Nat} (h : l[k]? = some y) : dLo x (l.take (k + 1)) = if y < dLo x (l.take k) then y else dLo x (l.take k) := by
  obtain ⟨hlt, he⟩ := List.getElem?_eq_some_iff.1 h
  rw [List.take_succ_eq_append_getElem hlt, he, dLo, List.foldl_append]
  simp only [List.foldl_cons, List.foldl_nil]
  show min (dLo x (l.take k)) y = _
  omega
theorem hi_take {x y : Int} {l : List Int} {k : Nat} (h : l[k]? = some y) : dHi x (l.take (k + 1)) = if dHi x (l.take k) < y then y else dHi x (l.take k) := by
  obtain ⟨hlt, he⟩ := List.getElem?_eq_some_iff.1 h
  rw [List.take_succ_eq_append_getElem hlt, he, dHi, List.foldl_append]
  simp only [List.foldl_cons, List.foldl_nil]
  show max (dHi x (l.take k)) y = _
  omega

theorem lowest_any (x : Int) (a : Option Addr) (cap : Nat) (l : List Int) (w : World) (hx : -9223372036854775808 ≤ x ∧ x ≤ 9223372036854775807) (h : Ints w a cap l) :
    Calls Try.prog 44 #[.int .i64 x, .slice a l.length cap] w fun e w' => e = .returned (.int .i64 (dLo x l)) ∧ w = w' := by
  have hle := h.le
  have hmx := h.mx
  obtain ⟨hx1, hx2⟩ := hx
  go_enter Try.func44, Try.ntmps44
  go_wp2
  go_loop [0, 9] (fun x' i => ∃ k : Nat, k ≤ l.length ∧ i = .int .i64 k ∧ x' = .int .i64 (dLo x (l.take k))) (fun _ i => l.length - (intOf i).toNat)
  case atStart => exact ⟨0, Nat.zero_le _, rfl, by simp [dLo]⟩
  case round =>
    obtain ⟨k, hk, rfl, rfl⟩ := hrel
    by_cases hlt : k < l.length
    · obtain ⟨b, o, rfl⟩ := h.head hlt
      obtain ⟨y, hy, hc, _, _⟩ := Ints.get h hlt
      have HY := Lib.hid hy
      clear hy
      go_wp2
      go_round
      case rel => exact ⟨k + 1, by omega, by go_num, by rw [lo_take HY.out]⟩
      case measure => simp [intOf]; omega
    · go_wp2
      go_ret
      exact ⟨ret_int (by rw [List.take_of_length_le (by omega)]), rfl⟩
theorem highest_any (x : Int) (a : Option Addr) (cap : Nat) (l : List Int) (w : World) (hx : -9223372036854775808 ≤ x ∧ x ≤ 9223372036854775807) (h : Ints w a cap l) :
    Calls Try.prog 45 #[.int .i64 x, .slice a l.length cap] w fun e w' => e = .returned (.int .i64 (dHi x l)) ∧ w = w' := by
  have hle := h.le
  have hmx := h.mx
  obtain ⟨hx1, hx2⟩ := hx
  go_enter Try.func45, Try.ntmps45
  go_wp2
  go_loop [0, 9] (fun x' i => ∃ k : Nat, k ≤ l.length ∧ i = .int .i64 k ∧ x' = .int .i64 (dHi x (l.take k))) (fun _ i => l.length - (intOf i).toNat)
  case atStart => exact ⟨0, Nat.zero_le _, rfl, by simp [dHi]⟩
  case round =>
    obtain ⟨k, hk, rfl, rfl⟩ := hrel
    by_cases hlt : k < l.length
    · obtain ⟨b, o, rfl⟩ := h.head hlt
      obtain ⟨y, hy, hc, _, _⟩ := Ints.get h hlt
      have HY := Lib.hid hy
      clear hy
      go_wp2
      go_round
      case rel => exact ⟨k + 1, by omega, by go_num, by rw [hi_take HY.out]⟩
      case measure => simp [intOf]; omega
    · go_wp2
      go_ret
      exact ⟨ret_int (by rw [List.take_of_length_le (by omega)]), rfl⟩
end Go.Proofs.Ytmkleegfbapakaa
