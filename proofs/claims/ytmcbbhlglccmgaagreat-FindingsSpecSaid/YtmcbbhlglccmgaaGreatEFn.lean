import Derived.Test.YtmcbbhlglccmgaaGreatBase
import Derived.Defers
import Derived.Recover
import Derived.KernelRfl
import Derived.WalkLawsBesides
import Derived.Test.YtmcbbhlglccmgaaGreatKeep
import Derived.RangeFuncBox
import Derived.Shelf.Abstract
import Derived.RangeFuncNested
namespace Go.Proofs.YtmcbbhlglccmgaaGreat
open Go.RowKit Go
set_option maxRecDepth 100000
set_option linter.unusedSimpArgs false

theorem exact_caught_panicking (p : Addr) (x e : Int) (older : List PanicEntry) (w : World) (hc : w.cell? p = some (.int .i64 x)) (hz : w.frozen? p = false) :
    CallsD Tryz.prog 65 #[.pointer (some p)] (.panicking ({ v := .iface 28 (.int .i64 e), recovered := false } :: older)) w fun r u' w' =>
      r = .returned (.tuple #[]) ∧ u' = .panicking ({ v := .iface 28 (.int .i64 e), recovered := true } :: older) ∧ w' = w.setCell p (.int .i64 e) := by
  have hta : ∀ (v : Value) (w : World), (Instr.typeAssert (.iface 28 v) 20 28 true).run Tryz.prog w = .ok (.tuple #[v, .bool true]) w := fun _ _ => by kernel_rfl
  refine callsD_of_wpS Tryz.func65 rfl fun c₀ cs hu => ?_
  apply wpS_seq
  apply wpS_region
  simp [wpOpsS, go_sem, recoverD, hu, Tryz.ntmps65, Exit.thenS]
  apply wpS_seq
  apply wpS_region
  simp [wpOpsS, go_sem, Exit.thenS]
  refine wpS_cond (t := true) (by simp [Act.eval, Array.replicate]) ?_
  simp only [if_true]
  apply wpS_seq
  apply wpS_region
  simp [wpOpsS, go_sem, Exit.thenS, hta]
  apply wpS_seq
  apply wpS_seq
  apply wpS_region
  simp [wpOpsS, go_sem, Exit.thenS]
  refine wpS_cond (t := false) (by simp [Act.eval, Array.replicate]) ?_
  simp only [Bool.false_eq_true, if_false]
  refine wpS_of_wp (wp_skip ?_)
  simp only [Exit.thenS]
  apply wpS_region
  simp [wpOpsS, go_sem, hc, hz, bodyPostS, results, Tryz.results65]

theorem exact_caught_idle (p : Addr) (w : World) :
    CallsD Tryz.prog 65 #[.pointer (some p)] .returning w fun e u' w' => e = .returned (.tuple #[]) ∧ u' = .returning ∧ w' = w := by
  refine callsD_of_wpS Tryz.func65 rfl fun c₀ cs hu => ?_
  apply wpS_seq
  apply wpS_region
  simp [wpOpsS, go_sem, recoverD, hu, Tryz.ntmps65, Exit.thenS]
  apply wpS_seq
  apply wpS_region
  simp [wpOpsS, go_sem, Exit.thenS]
  refine wpS_cond (t := false) (by simp [Act.eval, Array.replicate]) ?_
  simp only [Bool.false_eq_true, if_false]
  refine wpS_of_wp (wp_skip ?_)
  cases c₀
  simp_all [bodyPostS, results, Tryz.results65]
end Go.Proofs.YtmcbbhlglccmgaaGreat

namespace Go.Proofs.YtmcbbhlglccmgaaGreat
open Go.RowKit Go BigFrame Go.Shelf
set_option maxRecDepth 100000
set_option linter.unusedSimpArgs false

theorem exact_need_ok (E : Int) (w : World) : Calls Tryz.prog 66 #[.bool true, .int .i64 E] w fun e w' => e = .returned (.tuple #[]) ∧ w = w' := by
  go_enter Tryz.func66, Tryz.ntmps66
  go_wp2_with fail
  go_end0
  exact ⟨rfl, rfl⟩
theorem exact_need_no (E : Int) (w : World) : Calls Tryz.prog 66 #[.bool false, .int .i64 E] w fun e w' => e = .panicked [{ v := .iface 28 (.int .i64 E), recovered := false }] ∧ w = w' := by
  go_enter Tryz.func66, Tryz.ntmps66
  go_wp2_with fail
  exact ⟨rfl, rfl, rfl⟩
def outB (n : Int) : Bool := decide (n < -1048576) || decide (1048576 < n)
theorem exact_outside (n : Int) (w : World) : Calls Tryz.prog 67 #[.int .i64 n] w fun e w' => e = .returned (.bool (outB n)) ∧ w = w' := by
  unfold outB
  by_cases h1 : n < -1048576
  · have d1 : decide (n < -1048576) = true := by simpa using h1
    go_enter Tryz.func67, Tryz.ntmps67
    go_wp2_with fail
    go_ret
    exact ⟨ret_bool (by first | rfl | (rw [d1]; rfl)), rfl⟩
  · have d1 : decide (n < -1048576) = false := by simpa using h1
    go_enter Tryz.func67, Tryz.ntmps67
    go_wp2_with fail
    go_ret
    exact ⟨ret_bool (by first | rfl | (rw [d1]; rfl)), rfl⟩

theorem outside_enters (args : Array Value) (w : World) : (callFunc 67 args).run Tryz.prog w = .ok (.enter 67 args) w := enters_of Tryz.func67 (by kernel_rfl) rfl args w

theorem exact_index_none (a : Option Addr) (cap : Nat) (l : List Int) (w : World) (h : Ints w a cap l) (hn : l.any outB = false) :
    Calls Tryz.prog 93 #[.slice a l.length cap, .func (.func 67) #[] #[]] w fun e w' => e = .returned (.int .i64 (-1)) ∧ w = w' := by
  have hle := h.le
  have hmx := h.mx
  have hen := outside_enters
  have HN := Lib.hid hn
  clear hn
  go_enter Tryz.func93, Tryz.ntmps93
  go_wp2_with fail
  go_loop [8] (fun i => ∃ k : Nat, k ≤ l.length ∧ i = .int .i64 k) (fun i => l.length - (intOf i).toNat)
  case atStart => exact ⟨0, Nat.zero_le _, rfl⟩
  case round =>
    obtain ⟨k, hk, rfl⟩ := hrel
    by_cases hkn : k < l.length
    · obtain ⟨b, o, rfl⟩ := h.head hkn
      obtain ⟨x, hx, hc, _⟩ := Ints.get h hkn
      have ho : outB x = false := by
        have := List.any_eq_false.1 HN.out x (List.mem_of_getElem? hx)
        simpa using this
      have hO := exact_outside x w
      rw [ho] at hO
      have HO := Lib.hid hO
      have g1 : (0 : Int) ≤ (k : Int) := by omega
      have g2 : (k : Int) < (l.length : Int) := by omega
      clear hx ho hO
      go_wp2_with (go_at_call 67; refine HO.out.mono ?_; rintro e w' ⟨rfl, rfl⟩)
      go_round
      case rel => exact ⟨k + 1, by omega, by go_num⟩
      case measure => simp [intOf]; omega
    · obtain rfl : k = l.length := by omega
      go_wp2_with fail
      go_ret
      exact ⟨rfl, rfl⟩
def SomeIdx (w : World) (e : Ending) (w' : World) : Prop := ∃ i : Nat, e = .returned (.int .i64 (i : Int)) ∧ w = w'
theorem exact_index_some (a : Option Addr) (cap : Nat) (l : List Int) (w : World) (h : Ints w a cap l) (hn : l.any outB = true) :
    Calls Tryz.prog 93 #[.slice a l.length cap, .func (.func 67) #[] #[]] w (SomeIdx w) := by
  have hle := h.le
  have hmx := h.mx
  have hen := outside_enters
  have HN := Lib.hid hn
  clear hn
  go_enter Tryz.func93, Tryz.ntmps93
  go_wp2_with fail
  go_loop [8] (fun i => ∃ k : Nat, k ≤ l.length ∧ i = .int .i64 k ∧ (l.take k).any outB = false) (fun i => l.length - (intOf i).toNat)
  case atStart => exact ⟨0, Nat.zero_le _, rfl, rfl⟩
  case round =>
    obtain ⟨k, hk, rfl, hno⟩ := hrel
    have HNO := Lib.hid hno
    clear hno
    by_cases hkn : k < l.length
    · obtain ⟨b, o, rfl⟩ := h.head hkn
      obtain ⟨x, hx, hc, _⟩ := Ints.get h hkn
      have hO := exact_outside x w
      have hT := Lib.hid (take_get hx)
      have g1 : (0 : Int) ≤ (k : Int) := by omega
      have g2 : (k : Int) < (l.length : Int) := by omega
      clear hx
      cases ho : outB x with
      | false =>
        rw [ho] at hO
        have HO := Lib.hid hO
        have Ho := Lib.hid ho
        clear ho hO
        go_wp2_with (go_at_call 67; refine HO.out.mono ?_; rintro e w' ⟨rfl, rfl⟩)
        go_round
        case rel => exact ⟨k + 1, by omega, by go_num, by rw [hT.out, List.any_append, HNO.out]; simp [Ho.out]⟩
        case measure => simp [intOf]; omega
      | true =>
        rw [ho] at hO
        have HO := Lib.hid hO
        clear ho hO
        go_wp2_with (go_at_call 67; refine HO.out.mono ?_; rintro e w' ⟨rfl, rfl⟩)
        go_ret
        exact ⟨k, rfl, rfl⟩
    · obtain rfl : k = l.length := by omega
      exfalso
      have := HNO.out
      rw [List.take_length, HN.out] at this
      cases this
theorem exact_contains (a : Option Addr) (cap : Nat) (l : List Int) (w : World) (h : Ints w a cap l) :
    Calls Tryz.prog 60 #[.slice a l.length cap, .func (.func 67) #[] #[]] w fun e w' => e = .returned (.bool (l.any outB)) ∧ w = w' := by
  have hle := h.le
  have hmx := h.mx
  cases hn : l.any outB with
  | false =>
    have HI := Lib.hid (exact_index_none a cap l w h hn)
    clear hn
    go_enter Tryz.func60, Tryz.ntmps60
    go_wp2_with (go_at_call 93; refine HI.out.mono ?_; rintro e w' ⟨rfl, rfl⟩)
    go_ret
    exact ⟨rfl, rfl⟩
  | true =>
    have HI := Lib.hid (exact_index_some a cap l w h hn)
    clear hn
    go_enter Tryz.func60, Tryz.ntmps60
    go_wp2_with (go_at_call 93; refine HI.out.mono ?_; rintro e w' ⟨i, rfl, rfl⟩)
    go_ret
    exact ⟨rfl, rfl⟩
end Go.Proofs.YtmcbbhlglccmgaaGreat
