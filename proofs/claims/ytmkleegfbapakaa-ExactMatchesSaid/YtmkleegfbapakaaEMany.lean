import Derived.Test.YtmkleegfbapakaaEAll
import Derived.Test.YtmkleegfbapakaaEPerm3
namespace Go.Proofs.Ytmkleegfbapakaa
open Go.RowKit Go BigFrame Go.Shelf
set_option maxRecDepth 100000
set_option linter.unusedSimpArgs false

/-- Lists that do not fit: the count is nought and the fault is told. -/
theorem ref_Matches_bad (a a2 : Option Addr) (la lb cap cap2 : Nat) (many : Int) (w : World) (hE : listsE la lb ≠ 0) :
    Calls Try.prog 35 #[.slice a la cap, .slice a2 lb cap2, .int .i64 many] w fun e w' => e = .returned (.tuple #[.int .i64 0, .int .i64 (listsE la lb)]) ∧ w = w' := by
  have HL := Lib.hid (ref_lists a a2 la lb cap cap2 w)
  generalize listsE la lb = E at *
  go_enter Try.func35, Try.ntmps35
  go_wp2_with (go_at_call 67; refine HL.out.mono ?_; rintro e w' ⟨rfl, rfl⟩)
  refine bodyPost_ret (v := .tuple #[.int .i64 0, .int .i64 E]) (by simp [results, Try.results35, go_sem]) rfl ⟨rfl, rfl⟩
theorem ref_Orders_bad (a a2 : Option Addr) (la lb cap cap2 : Nat) (sum : Int) (w : World) (hE : listsE la lb ≠ 0) :
    Calls Try.prog 33 #[.slice a la cap, .slice a2 lb cap2, .int .i64 sum] w fun e w' => e = .returned (.tuple #[.int .i64 0, .int .i64 (listsE la lb)]) ∧ w = w' := by
  have HL := Lib.hid (ref_lists a a2 la lb cap cap2 w)
  generalize listsE la lb = E at *
  go_enter Try.func33, Try.ntmps33
  go_wp2_with (go_at_call 67; refine HL.out.mono ?_; rintro e w' ⟨rfl, rfl⟩)
  refine bodyPost_ret (v := .tuple #[.int .i64 0, .int .i64 E]) (by simp [results, Try.results33, go_sem]) rfl ⟨rfl, rfl⟩
set_option maxHeartbeats 1000000 in
/-- A number out of bounds: the count is nought and the fault is 1. -/
theorem ref_Orders_out1 (nn : Nat) (a a2 : Option Addr) (cap cap2 : Nat) (l : List Int) (sum : Int) (w : World) (h : Ints w a cap l) (hl : l.length = nn) (hn : nn ≤ 8) (ho : l.any outB = true) :
    Calls Try.prog 33 #[.slice a nn cap, .slice a2 nn cap2, .int .i64 sum] w fun e w' => e = .returned (.tuple #[.int .i64 0, .int .i64 1]) ∧ w = w' := by
  have HL := Lib.hid (ref_lists a a2 nn nn cap cap2 w)
  have hE : listsE nn nn = 0 := by unfold listsE; rw [if_neg (by omega), if_neg (by omega)]
  rw [hE] at HL
  have hi1 := ref_inside a cap l w h
  rw [hl] at hi1
  rw [ho] at hi1
  have H1 := Lib.hid hi1
  clear hi1 h
  go_enter Try.func33, Try.ntmps33
  go_wp2_with (first
    | (go_at_call 67; refine HL.out.mono ?_; rintro e w' ⟨rfl, rfl⟩)
    | (go_at_call 61; refine H1.out.mono ?_; rintro e w' ⟨rfl, rfl⟩))
  refine bodyPost_ret (v := .tuple #[.int .i64 0, .int .i64 1]) (by simp [results, Try.results33, go_sem]) rfl ⟨rfl, rfl⟩
end Go.Proofs.Ytmkleegfbapakaa
