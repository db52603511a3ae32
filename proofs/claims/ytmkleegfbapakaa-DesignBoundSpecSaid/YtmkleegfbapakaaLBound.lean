import Derived.Test.YtmkleegfbapakaaDSane
import Derived.Test.YtmkleegfbapakaaDBound2
import Derived.Test.YtmkleegfbapakaaDFew
namespace Go.Proofs.Ytmkleegfbapakaa
open Go.RowKit Go D28
set_option maxRecDepth 100000

theorem brows_nil (w : World) : Rows w none 0 [] := ⟨Nat.le_refl _, by omega, fun _ => rfl, fun A hA => by cases hA⟩

set_option maxHeartbeats 4000000 in
theorem lawBoundSpec (J S N : Int) (a : Option Addr) (cap : Nat) (bad : List (List Bool)) (w : World) (h : BRows w a cap bad) :
    Calls Try.prog 4 #[.agg #[.int .i64 J, .int .i64 S, .int .i64 N, .slice a bad.length cap]] w fun e w' => e = .returned (.bool true) ∧ Ext w w' := by
  have hx := Ext.alloc w (.cells #[.int .i64 J, .int .i64 S, .int .i64 N, .slice a bad.length cap] 24)
  have hb := h.ext hx
  have k := Lib.hid (Blk.new0 w #[.int .i64 J, .int .i64 S, .int .i64 N, .slice a bad.length cap] 24)
  go_enter Try.func4, Try.ntmps4
  go_wp2_with fail
  generalize w.alloc (.cells #[.int .i64 J, .int .i64 S, .int .i64 N, .slice a bad.length cap] 24) = w1 at *
  refine (lawSane _).mono ?_
  rintro e0 w2 ⟨rfl, hy⟩
  have hb := hb.ext hy
  have hx := hx.trans hy
  have k := Lib.hid (k.out.ext hy)
  clear hy
  have c0 := k.out.cell (i := 0) (v := .int .i64 J) rfl
  have c1 := k.out.cell (i := 1) (v := .int .i64 S) rfl
  have c2 := k.out.cell (i := 2) (v := .int .i64 N) rfl
  have c3 := k.out.cell (i := 3) (v := .slice a bad.length cap) rfl
  go_wp2_with fail
  refine (refFew J S N a cap bad none 0 [] _ hb (brows_nil _)).mono ?_
  rintro e0 w3 ⟨rfl, hy⟩
  have hb := hb.ext hy
  have hx := hx.trans hy
  have k := Lib.hid (k.out.ext hy)
  clear hy c0 c1 c2 c3
  have c0 := k.out.cell (i := 0) (v := .int .i64 J) rfl
  have c1 := k.out.cell (i := 1) (v := .int .i64 S) rfl
  have c2 := k.out.cell (i := 2) (v := .int .i64 N) rfl
  have c3 := k.out.cell (i := 3) (v := .slice a bad.length cap) rfl
  cases hf : fewB J bad [] with
  | false =>
    clear hf
    go_wp2_with fail
    go_ret
    exact ⟨rfl, hx⟩
  | true =>
    clear hf
    obtain ⟨L, M, P, E, hD, hRf⟩ : ∃ L M P E : Int, (∀ w4, BRows w4 a cap bad → Calls Try.prog 21 #[.agg #[.int .i64 J, .int .i64 S, .int .i64 N, .slice a bad.length cap]] w4 fun e w' => e = .returned (.tuple #[.agg #[.int .i64 L, .int .i64 M, .int .i64 P, .int .i64 0], .int .i64 E]) ∧ Ext w4 w') ∧
        (∀ w4, BRows w4 a cap bad → Calls Try.prog 22 #[.agg #[.int .i64 J, .int .i64 S, .int .i64 N, .slice a bad.length cap]] w4 fun e w' => e = .returned (.tuple #[.agg #[.int .i64 L, .int .i64 M, .int .i64 P, .int .i64 0], .int .i64 E]) ∧ Ext w4 w') := by
      cases hr : rightB J S N bad with
      | false => exact ⟨0, 0, 0, 290, fun w4 h4 => desBound_no J S N a cap bad w4 h4 hr, fun w4 h4 => refBound_no J S N a cap bad w4 h4 hr⟩
      | true => exact ⟨_, _, _, _, fun w4 h4 => desBound_yes J S N a cap bad w4 h4 hr, fun w4 h4 => refBound_yes J S N a cap bad w4 h4 hr⟩
    have hD := Lib.hid hD
    have hRf := Lib.hid hRf
    go_wp2_with fail
    refine (hD.out _ hb).mono ?_
    rintro e0 w4 ⟨rfl, hy⟩
    have hb := hb.ext hy
    have hx := hx.trans hy
    have k := Lib.hid (k.out.ext hy)
    clear hy c0 c1 c2 c3
    go_upto_region 6 with fail
    have k3 := Lib.hid (Blk.new0 w4 #[.int .i64 L, .int .i64 M, .int .i64 P, .int .i64 0] 29)
    have hb := hb.ext (Ext.alloc _ (.cells #[.int .i64 L, .int .i64 M, .int .i64 P, .int .i64 0] 29))
    have hx := hx.alloc' (.cells #[.int .i64 L, .int .i64 M, .int .i64 P, .int .i64 0] 29)
    have k := Lib.hid (k.out.alloc (.cells #[.int .i64 L, .int .i64 M, .int .i64 P, .int .i64 0] 29))
    generalize w4.alloc (.cells #[.int .i64 L, .int .i64 M, .int .i64 P, .int .i64 0] 29) = w5 at *
    generalize w4.heap.size = p3 at *
    have c0 := k.out.cell (i := 0) (v := .int .i64 J) rfl
    have c1 := k.out.cell (i := 1) (v := .int .i64 S) rfl
    have c2 := k.out.cell (i := 2) (v := .int .i64 N) rfl
    have c3 := k.out.cell (i := 3) (v := .slice a bad.length cap) rfl
    go_wp2_with fail
    refine (hRf.out _ hb).mono ?_
    rintro e0 w6 ⟨rfl, hy⟩
    have hx := hx.trans hy
    have k3 := k3.out.ext hy
    clear hy c0 c1 c2 c3 k
    have c0 := k3.cell (i := 0) (v := .int .i64 L) rfl
    have c1 := k3.cell (i := 1) (v := .int .i64 M) rfl
    have c2 := k3.cell (i := 2) (v := .int .i64 P) rfl
    have c3 := k3.cell (i := 3) (v := .int .i64 0) rfl
    have lt3 := k3.lt
    go_wp2_with fail
    go_ret
    exact ⟨by simp, (by repeat (first | with_reducible exact Ext.refl _ | with_reducible assumption | with_reducible refine Ext.drewN ?_ _ | with_reducible refine Ext.drew ?_ | with_reducible refine Ext.alloc' ?_ _ | with_reducible refine Ext.set ?_ (by dsimp only; omega) _))⟩
end Go.Proofs.Ytmkleegfbapakaa
