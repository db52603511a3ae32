import Derived.Test.YtmkleegfbapakaaEMany
namespace Go.Proofs.Ytmkleegfbapakaa
open Go.RowKit Go BigFrame Go.Shelf
set_option maxRecDepth 100000
set_option linter.unusedSimpArgs false

theorem ref_Orders_out2 (nn : Nat) (a a2 : Option Addr) (cap cap2 : Nat) (l m : List Int) (sum : Int) (w : World) (h : Ints w a cap l) (h2 : Ints w a2 cap2 m) (hl : l.length = nn) (hm : m.length = nn) (hn : nn ≤ 8) (ho : l.any outB = false) (ho2 : m.any outB = true) :
    Calls Try.prog 33 #[.slice a nn cap, .slice a2 nn cap2, .int .i64 sum] w fun e w' => e = .returned (.tuple #[.int .i64 0, .int .i64 1]) ∧ w = w' := by
  have HL := Lib.hid (ref_lists a a2 nn nn cap cap2 w)
  have hE : listsE nn nn = 0 := by unfold listsE; rw [if_neg (by omega), if_neg (by omega)]
  rw [hE] at HL
  have hi1 := ref_inside a cap l w h
  have hi2 := ref_inside a2 cap2 m w h2
  rw [hl] at hi1
  rw [hm] at hi2
  rw [ho] at hi1
  rw [ho2] at hi2
  have H1 := Lib.hid hi1
  have H2 := Lib.hid hi2
  clear hi1 hi2 h h2
  go_enter Try.func33, Try.ntmps33
  go_wp2_with (first
    | (go_at_call 67; refine HL.out.mono ?_; rintro e w' ⟨rfl, rfl⟩)
    | (go_at_call 61; with_reducible refine H1.out.mono ?_; rintro e w' ⟨rfl, rfl⟩)
    | (go_at_call 61; with_reducible refine H2.out.mono ?_; rintro e w' ⟨rfl, rfl⟩))
  refine bodyPost_ret (v := .tuple #[.int .i64 0, .int .i64 1]) (by simp [results, Try.results33, go_sem]) rfl ⟨rfl, rfl⟩
end Go.Proofs.Ytmkleegfbapakaa
