import Derived.Test.YtmkleegfbapakaaEOrders
namespace Go.Proofs.Ytmkleegfbapakaa
open Go.RowKit Go BigFrame Go.Shelf
set_option maxRecDepth 100000
set_option linter.unusedSimpArgs false

set_option maxHeartbeats 1000000 in
theorem exact_Matches_bad (a a2 : Option Addr) (la lb cap cap2 : Nat) (sum E : Int) (w : World)
    (hL : ∀ W, Calls Try.prog 64 #[.slice a la cap, .slice a2 lb cap2] W fun e w' => e = .panicked [{ v := .iface 30 (.int .i64 E), recovered := false }] ∧ W = w') :
    Calls Try.prog 34 #[.slice a la cap, .slice a2 lb cap2, .int .i64 sum] w fun e w' => e = .returned (.tuple #[.int .i64 0, .int .i64 E]) ∧ Ext w w' := by
  have HL := Lib.hid hL
  have hx := Ext.alloc w (.cells #[.int .i64 0] 30)
  have k := Lib.hid (Blk.new0 w #[.int .i64 0] 30)
  clear hL
  go_enter_defers Try.func34, Try.ntmps34
  go_wp2_with fail
  refine (HL.out _).mono ?_
  rintro e w1 ⟨rfl, rfl⟩
  generalize w.alloc (.cells #[.int .i64 0] 30) = w1 at *
  generalize hp : w.heap.size = p at *
  refine leaves_cons (f := 57) (args := #[.pointer (some ⟨p, 0, none⟩)]) (by simp) (by simp [go_sem]) ?_
  refine (exact_caught_panicking ⟨p, 0, none⟩ 0 E [] _ (k.out.cell (i := 0) rfl) (k.out.free 0)).mono ?_
  rintro e u' w'' ⟨rfl, rfl, rfl⟩
  have c0 := (k.out.set 0 (.int .i64 E)).cell (i := 0) (v := .int .i64 E) rfl
  simp [Leaves, settle, results, Try.results34, go_sem, c0]
  exact hx.set (p := ⟨p, 0, none⟩) (by rw [hp]; exact Nat.le_refl _) _

set_option maxHeartbeats 1000000 in
theorem exact_Matches_ok (nn : Nat) (a a2 : Option Addr) (cap cap2 : Nat) (l m : List Int) (sum : Int) (w : World) (h : Ints w a cap l) (h2 : Ints w a2 cap2 m) (hl : l.length = nn) (hm : m.length = nn) (hn : nn ≤ 8)
    (hs : -9223372036854775808 ≤ sum ∧ sum ≤ 9223372036854775807) :
    Calls Try.prog 34 #[.slice a nn cap, .slice a2 nn cap2, .int .i64 sum] w fun e w' => e = .returned (.tuple #[.int .i64 (cntG eqP l m sum), .int .i64 0]) ∧ Ext w w' := by
  have hx := Ext.alloc w (.cells #[.int .i64 0] 30)
  have k := Lib.hid (Blk.new0 w #[.int .i64 0] 30)
  have hC := counted_any nn a a2 cap cap2 l m sum 69 eqP _ (h.ext hx) (h2.ext hx) hl hm hn (enters_of Try.func69 (by kernel_rfl) rfl)
    (fun i j W _ _ => exact_eq _ _ W) (fun i j _ _ => by unfold eqP; split <;> omega) hs
  have HL := Lib.hid (exact_lists_ok a a2 nn nn cap cap2 (w.alloc (.cells #[.int .i64 0] 30)) rfl hn)
  have HC := Lib.hid hC
  clear h h2 hl hm hC
  go_enter_defers Try.func34, Try.ntmps34
  go_wp2_with fail
  refine HL.out.mono ?_
  rintro e w1 ⟨rfl, rfl⟩
  go_wp2_with fail
  refine HC.out.mono ?_
  rintro e w2 ⟨rfl, hy⟩
  have k2 := k.out.ext hy
  have c0 := k2.cell (i := 0) (v := .int .i64 0) rfl
  have f0 := k2.free 0
  have hx2 := hx.trans hy
  have K2 := Lib.hid k2
  clear k2
  generalize hp : w.heap.size = p at *
  go_wp2_with fail
  refine leaves_cons (f := 57) (args := #[.pointer (some ⟨p, 0, none⟩)]) (by simp) (by simp [go_sem]) ?_
  refine (exact_caught_idle ⟨p, 0, none⟩ _).mono ?_
  rintro e u' w'' ⟨rfl, rfl, rfl⟩
  have c0 := (K2.out.set 0 (.int .i64 0)).cell (i := 0) (v := .int .i64 0) rfl
  simp [Leaves, settle, results, Try.results34, go_sem, c0]
  exact hx2.set (p := ⟨p, 0, none⟩) (by rw [hp]; exact Nat.le_refl _) _
end Go.Proofs.Ytmkleegfbapakaa
