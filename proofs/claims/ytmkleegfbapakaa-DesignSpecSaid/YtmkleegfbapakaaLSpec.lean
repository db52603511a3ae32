import Derived.Test.YtmkleegfbapakaaDSane
import Derived.Test.YtmkleegfbapakaaDMe
import Derived.Test.YtmkleegfbapakaaDFew
import Derived.Test.YtmkleegfbapakaaDMeas2
namespace Go.Proofs.Ytmkleegfbapakaa
open Go.RowKit Go D28
set_option maxRecDepth 100000

/-- Measure and its reference answer alike. -/
theorem measure_both (J S N m : Int) (a : Option Addr) (cap : Nat) (bad : List (List Bool)) (a2 : Option Addr) (cap2 : Nat) (ps : List (List Int)) :
    ∃ L M P T E : Int, (∀ w, BRows w a cap bad → Rows w a2 cap2 ps → Calls Try.prog 17 #[.agg #[.int .i64 J, .int .i64 S, .int .i64 N, .slice a bad.length cap], .slice a2 ps.length cap2, .int .i64 m] w fun e w' => e = .returned (.tuple #[.agg #[.int .i64 L, .int .i64 M, .int .i64 P, .int .i64 T], .int .i64 E]) ∧ Ext w w') ∧
      (∀ w, BRows w a cap bad → Rows w a2 cap2 ps → Calls Try.prog 18 #[.agg #[.int .i64 J, .int .i64 S, .int .i64 N, .slice a bad.length cap], .slice a2 ps.length cap2, .int .i64 m] w fun e w' => e = .returned (.tuple #[.agg #[.int .i64 L, .int .i64 M, .int .i64 P, .int .i64 T], .int .i64 E]) ∧ Ext w w') := by
  by_cases he : checkE J S N bad ps = 0
  · by_cases hm : 1 ≤ m ∧ m ≤ 16
    · obtain ⟨_, _, hJ, _⟩ := rows_ok he
      obtain ⟨Jn, rfl⟩ : ∃ Jn : Nat, J = (Jn : Int) := ⟨J.toNat, by omega⟩
      obtain ⟨mn, rfl⟩ : ∃ mn : Nat, m = (mn : Int) := ⟨m.toNat, by omega⟩
      exact ⟨_, _, _, _, _, fun w h h2 => desMeasure_ok S N Jn mn a cap bad a2 cap2 ps w h h2 he (by omega) (by omega), fun w h h2 => refMeasure_ok Jn S N mn a cap bad a2 cap2 ps w h h2 he (by omega) (by omega)⟩
    · exact ⟨0, 0, 0, 0, 1, fun w h h2 => desMeasure_arg J S N m a cap bad a2 cap2 ps w h h2 he hm, fun w h h2 => refMeasure_arg J S N m a cap bad a2 cap2 ps w h h2 he hm⟩
  · exact ⟨0, 0, 0, 0, _, fun w h h2 => desMeasure_err J S N m _ a cap bad a2 cap2 ps w h h2 rfl he, fun w h h2 => refMeasure_err J S N m _ a cap bad a2 cap2 ps w h h2 rfl he⟩

set_option maxHeartbeats 4000000 in
theorem lawSpec28 (J S N m : Int) (a : Option Addr) (cap : Nat) (bad : List (List Bool)) (a2 : Option Addr) (cap2 : Nat) (ps : List (List Int)) (w : World) (h : BRows w a cap bad) (h2 : Rows w a2 cap2 ps) :
    Calls Try.prog 3 #[.agg #[.int .i64 J, .int .i64 S, .int .i64 N, .slice a bad.length cap], .slice a2 ps.length cap2, .int .i64 m] w fun e w' => e = .returned (.bool true) ∧ Ext w w' := by
  have hle := h2.le
  have hmx := h2.mx
  have hx := Ext.alloc w (.cells #[.int .i64 J, .int .i64 S, .int .i64 N, .slice a bad.length cap] 24)
  have hb := h.ext hx
  have hp := h2.ext hx
  have k := Lib.hid (Blk.new0 w #[.int .i64 J, .int .i64 S, .int .i64 N, .slice a bad.length cap] 24)
  go_enter Try.func3, Try.ntmps3
  go_wp2_with fail
  generalize w.alloc (.cells #[.int .i64 J, .int .i64 S, .int .i64 N, .slice a bad.length cap] 24) = w1 at *
  refine (lawSane _).mono ?_
  rintro e0 w2 ⟨rfl, hy⟩
  have hb := hb.ext hy
  have hp := hp.ext hy
  have hx := hx.trans hy
  have k := Lib.hid (k.out.ext hy)
  clear hy
  have c0 := k.out.cell (i := 0) (v := .int .i64 J) rfl
  have c1 := k.out.cell (i := 1) (v := .int .i64 S) rfl
  have c2 := k.out.cell (i := 2) (v := .int .i64 N) rfl
  have c3 := k.out.cell (i := 3) (v := .slice a bad.length cap) rfl
  go_wp2_with fail
  refine (refFew J S N a cap bad a2 cap2 ps _ hb hp).mono ?_
  rintro e0 w3 ⟨rfl, hy⟩
  have hb := hb.ext hy
  have hp := hp.ext hy
  have hx := hx.trans hy
  have k := Lib.hid (k.out.ext hy)
  clear hy c0 c1 c2 c3
  have c0 := k.out.cell (i := 0) (v := .int .i64 J) rfl
  have c1 := k.out.cell (i := 1) (v := .int .i64 S) rfl
  have c2 := k.out.cell (i := 2) (v := .int .i64 N) rfl
  have c3 := k.out.cell (i := 3) (v := .slice a bad.length cap) rfl
  cases hf : fewB J bad ps with
  | false =>
    clear hf
    go_wp2_with fail
    go_ret
    exact ⟨rfl, hx⟩
  | true =>
    clear hf
    obtain ⟨L, M, P, T, E, hD, hRf⟩ := measure_both J S N m a cap bad a2 cap2 ps
    have hD := Lib.hid hD
    have hRf := Lib.hid hRf
    go_wp2_with fail
    refine (hD.out _ hb hp).mono ?_
    rintro e0 w4 ⟨rfl, hy⟩
    have hb := hb.ext hy
    have hp := hp.ext hy
    have hx := hx.trans hy
    have k := Lib.hid (k.out.ext hy)
    clear hy c0 c1 c2 c3
    go_upto_region 6 with fail
    have k3 := Lib.hid (Blk.new0 w4 #[.int .i64 L, .int .i64 M, .int .i64 P, .int .i64 T] 29)
    have hb := hb.ext (Ext.alloc _ (.cells #[.int .i64 L, .int .i64 M, .int .i64 P, .int .i64 T] 29))
    have hp := hp.ext (Ext.alloc _ (.cells #[.int .i64 L, .int .i64 M, .int .i64 P, .int .i64 T] 29))
    have hx := hx.alloc' (.cells #[.int .i64 L, .int .i64 M, .int .i64 P, .int .i64 T] 29)
    have k := Lib.hid (k.out.alloc (.cells #[.int .i64 L, .int .i64 M, .int .i64 P, .int .i64 T] 29))
    generalize w4.alloc (.cells #[.int .i64 L, .int .i64 M, .int .i64 P, .int .i64 T] 29) = w5 at *
    generalize w4.heap.size = p3 at *
    have c0 := k.out.cell (i := 0) (v := .int .i64 J) rfl
    have c1 := k.out.cell (i := 1) (v := .int .i64 S) rfl
    have c2 := k.out.cell (i := 2) (v := .int .i64 N) rfl
    have c3 := k.out.cell (i := 3) (v := .slice a bad.length cap) rfl
    go_wp2_with fail
    refine (hRf.out _ hb hp).mono ?_
    rintro e0 w6 ⟨rfl, hy⟩
    have hb := hb.ext hy
    have hp := hp.ext hy
    have hx := hx.trans hy
    have k := Lib.hid (k.out.ext hy)
    have k3 := Lib.hid (k3.out.ext hy)
    clear hy c0 c1 c2 c3
    go_upto_region 7 with fail
    have k4 := Lib.hid (Blk.new0 w6 #[.int .i64 L, .int .i64 M, .int .i64 P, .int .i64 T] 29)
    have hb := hb.ext (Ext.alloc _ (.cells #[.int .i64 L, .int .i64 M, .int .i64 P, .int .i64 T] 29))
    have hp := hp.ext (Ext.alloc _ (.cells #[.int .i64 L, .int .i64 M, .int .i64 P, .int .i64 T] 29))
    have hx := hx.alloc' (.cells #[.int .i64 L, .int .i64 M, .int .i64 P, .int .i64 T] 29)
    have k := Lib.hid (k.out.alloc (.cells #[.int .i64 L, .int .i64 M, .int .i64 P, .int .i64 T] 29))
    have k3 := Lib.hid (k3.out.alloc (.cells #[.int .i64 L, .int .i64 M, .int .i64 P, .int .i64 T] 29))
    generalize w6.alloc (.cells #[.int .i64 L, .int .i64 M, .int .i64 P, .int .i64 T] 29) = w7 at *
    generalize w6.heap.size = p4 at *
    have c0 := later_cell (k.out.cell (i := 0) (v := .int .i64 J) rfl)
    have c1 := later_cell (k.out.cell (i := 1) (v := .int .i64 S) rfl)
    have c2 := later_cell (k.out.cell (i := 2) (v := .int .i64 N) rfl)
    have c3 := later_cell (k.out.cell (i := 3) (v := .slice a bad.length cap) rfl)
    have d0 := later_cell (k3.out.cell (i := 0) (v := .int .i64 L) rfl)
    have d1 := later_cell (k3.out.cell (i := 1) (v := .int .i64 M) rfl)
    have d2 := later_cell (k3.out.cell (i := 2) (v := .int .i64 P) rfl)
    have d3 := later_cell (k3.out.cell (i := 3) (v := .int .i64 T) rfl)
    have g0 := later_cell (k4.out.cell (i := 0) (v := .int .i64 L) rfl)
    have g1 := later_cell (k4.out.cell (i := 1) (v := .int .i64 M) rfl)
    have g2 := later_cell (k4.out.cell (i := 2) (v := .int .i64 P) rfl)
    have g3 := later_cell (k4.out.cell (i := 3) (v := .int .i64 T) rfl)
    obtain ⟨C, hC⟩ : ∃ C, checkE J S N bad ps = C := ⟨_, rfl⟩
    have CD := Lib.hid (fun W : Later w7 => later_call (W := W) (by have := desCheck J S N a cap bad a2 cap2 ps W.1 (hb.ext W.2) (hp.ext W.2); rwa [hC] at this))
    have CR := Lib.hid (fun W : Later w7 => later_call (W := W) (by have := refCheck J S N a cap bad a2 cap2 ps W.1 (hb.ext W.2) (hp.ext W.2); rwa [hC] at this))
    clear hC hb hp
    refine wp_region_later (by kernel_rfl) (by kernel_rfl) ?_; repeat (go_big_quiet_step ((first | (go_at_call 19; exact CD.out _) | (go_at_call 20; exact CR.out _))))
    refine wpQuiet_nil ?_; rintro _ ⟨⟨W1, HW1⟩, rfl⟩; (try dsimp only)
    go_wp2_with fail
    go_ret
    exact ⟨by simp, hx.trans HW1⟩
end Go.Proofs.Ytmkleegfbapakaa
