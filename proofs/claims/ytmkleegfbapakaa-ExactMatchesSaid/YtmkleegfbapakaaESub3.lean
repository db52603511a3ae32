import Derived.Test.YtmkleegfbapakaaESub2
namespace Go.Proofs.Ytmkleegfbapakaa
open Go.RowKit Go Go.Maps Go.Shelf
set_option maxRecDepth 100000
set_option linter.unusedSimpArgs false

/-- Two results: nought, and the error E. -/
def SubE (E : Int) (w : World) (e : Ending) (w' : World) : Prop := e = .returned (.tuple #[.agg #[.bool false, .slice none 0 0], .int .i64 E]) ∧ Ext w w'

set_option maxHeartbeats 1000000 in
theorem exact_Subsets_limit (a : Option Addr) (cap n : Nat) (k sum : Int) (w : World) (hn : 64 < n) :
    Calls Try.prog 28 #[.slice a n cap, .int .i64 k, .int .i64 sum] w (SubE 2 w) := by
  have d1 : decide ((n : Int) ≤ 64) = false := by simp; omega
  have hx : Ext w ((w.alloc (.cells #[.bool false, .slice none 0 0] 42)).alloc (.cells #[.int .i64 0] 30)) := (by repeat (first | with_reducible exact Ext.refl _ | with_reducible assumption | with_reducible refine Ext.drewN ?_ _ | with_reducible refine Ext.drew ?_ | with_reducible refine Ext.alloc' ?_ _ | with_reducible refine Ext.set ?_ (by dsimp only; omega) _))
  have k0 := Lib.hid ((Blk.new0 w #[.bool false, .slice none 0 0] 42).alloc (.cells #[.int .i64 0] 30))
  have k1 := Lib.hid (Blk.new1 w (.cells #[.bool false, .slice none 0 0] 42) #[.int .i64 0] 30)
  go_enter_defers Try.func28, Try.ntmps28
  go_wp2_with fail
  with_reducible refine (exact_need_no _ _).mono ?_
  rintro e w1 ⟨rfl, rfl⟩
  generalize (w.alloc (.cells #[.bool false, .slice none 0 0] 42)).alloc (.cells #[.int .i64 0] 30) = w1 at *
  refine leaves_cons (f := 57) (args := #[.pointer (some ⟨w.heap.size + 1, 0, none⟩)]) (by simp) (by simp [go_sem]) ?_
  refine (exact_caught_panicking ⟨w.heap.size + 1, 0, none⟩ 0 2 [] _ (k1.out.cell (i := 0) rfl) (k1.out.free 0)).mono ?_
  rintro e u' w'' ⟨rfl, rfl, rfl⟩
  have e2 := (k1.out.set 0 (.int .i64 2)).cell (i := 0) (v := .int .i64 2) rfl
  have k2 := k0.out.other (p := ⟨w.heap.size + 1, 0, none⟩) (by dsimp only; omega) (.int .i64 2)
  have e0 := k2.cell (i := 0) (v := .bool false) rfl
  have e1 := k2.cell (i := 1) (v := .slice none 0 0) rfl
  have hxf : Ext w (w1.setCell ⟨w.heap.size + 1, 0, none⟩ (.int .i64 2)) := (by repeat (first | with_reducible exact Ext.refl _ | with_reducible assumption | with_reducible refine Ext.drewN ?_ _ | with_reducible refine Ext.drew ?_ | with_reducible refine Ext.alloc' ?_ _ | with_reducible refine Ext.set ?_ (by dsimp only; omega) _))
  simp [Leaves, settle, results, Try.results28, go_sem, e0, e1, e2]
  exact ⟨rfl, hxf⟩

set_option maxHeartbeats 1000000 in
theorem exact_Subsets_out (a : Option Addr) (cap : Nat) (k : Int) (l : List Int) (sum : Int) (w : World) (h : Ints w a cap l) (hn : l.length ≤ 64) (ho : l.any outB = true) :
    Calls Try.prog 28 #[.slice a l.length cap, .int .i64 k, .int .i64 sum] w (SubE 1 w) := by
  have d1 : decide ((l.length : Int) ≤ 64) = true := by simp; omega
  have hx : Ext w ((w.alloc (.cells #[.bool false, .slice none 0 0] 42)).alloc (.cells #[.int .i64 0] 30)) := (by repeat (first | with_reducible exact Ext.refl _ | with_reducible assumption | with_reducible refine Ext.drewN ?_ _ | with_reducible refine Ext.drew ?_ | with_reducible refine Ext.alloc' ?_ _ | with_reducible refine Ext.set ?_ (by dsimp only; omega) _))
  have k0 := Lib.hid ((Blk.new0 w #[.bool false, .slice none 0 0] 42).alloc (.cells #[.int .i64 0] 30))
  have k1 := Lib.hid (Blk.new1 w (.cells #[.bool false, .slice none 0 0] 42) #[.int .i64 0] 30)
  have hC := exact_contains a cap l _ (h.ext hx)
  rw [ho] at hC
  have HC := Lib.hid hC
  clear hC h ho 
  go_enter_defers Try.func28, Try.ntmps28
  go_wp2_with fail
  with_reducible refine (exact_need_ok _ _).mono ?_
  rintro e w1 ⟨rfl, rfl⟩
  go_wp2_with fail
  with_reducible refine HC.out.mono ?_
  rintro e w1 ⟨rfl, rfl⟩
  go_wp2_with fail
  with_reducible refine (exact_need_no _ _).mono ?_
  rintro e w1 ⟨rfl, rfl⟩
  generalize (w.alloc (.cells #[.bool false, .slice none 0 0] 42)).alloc (.cells #[.int .i64 0] 30) = w1 at *
  refine leaves_cons (f := 57) (args := #[.pointer (some ⟨w.heap.size + 1, 0, none⟩)]) (by simp) (by simp [go_sem]) ?_
  refine (exact_caught_panicking ⟨w.heap.size + 1, 0, none⟩ 0 1 [] _ (k1.out.cell (i := 0) rfl) (k1.out.free 0)).mono ?_
  rintro e u' w'' ⟨rfl, rfl, rfl⟩
  have e2 := (k1.out.set 0 (.int .i64 1)).cell (i := 0) (v := .int .i64 1) rfl
  have k2 := k0.out.other (p := ⟨w.heap.size + 1, 0, none⟩) (by dsimp only; omega) (.int .i64 1)
  have e0 := k2.cell (i := 0) (v := .bool false) rfl
  have e1 := k2.cell (i := 1) (v := .slice none 0 0) rfl
  have hxf : Ext w (w1.setCell ⟨w.heap.size + 1, 0, none⟩ (.int .i64 1)) := (by repeat (first | with_reducible exact Ext.refl _ | with_reducible assumption | with_reducible refine Ext.drewN ?_ _ | with_reducible refine Ext.drew ?_ | with_reducible refine Ext.alloc' ?_ _ | with_reducible refine Ext.set ?_ (by dsimp only; omega) _))
  simp [Leaves, settle, results, Try.results28, go_sem, e0, e1, e2]
  exact ⟨rfl, hxf⟩

set_option maxHeartbeats 1000000 in
theorem exact_Subsets_neg (a : Option Addr) (cap : Nat) (k : Int) (l : List Int) (sum : Int) (w : World) (h : Ints w a cap l) (hn : l.length ≤ 64) (ho : l.any outB = false) (hk : k < 0) :
    Calls Try.prog 28 #[.slice a l.length cap, .int .i64 k, .int .i64 sum] w (SubE 1 w) := by
  have d1 : decide ((l.length : Int) ≤ 64) = true := by simp; omega
  have d2 : decide (0 ≤ k) = false := by simp; omega
  have hx : Ext w ((w.alloc (.cells #[.bool false, .slice none 0 0] 42)).alloc (.cells #[.int .i64 0] 30)) := (by repeat (first | with_reducible exact Ext.refl _ | with_reducible assumption | with_reducible refine Ext.drewN ?_ _ | with_reducible refine Ext.drew ?_ | with_reducible refine Ext.alloc' ?_ _ | with_reducible refine Ext.set ?_ (by dsimp only; omega) _))
  have k0 := Lib.hid ((Blk.new0 w #[.bool false, .slice none 0 0] 42).alloc (.cells #[.int .i64 0] 30))
  have k1 := Lib.hid (Blk.new1 w (.cells #[.bool false, .slice none 0 0] 42) #[.int .i64 0] 30)
  have hC := exact_contains a cap l _ (h.ext hx)
  rw [ho] at hC
  have HC := Lib.hid hC
  clear hC h ho hk
  go_enter_defers Try.func28, Try.ntmps28
  go_wp2_with fail
  with_reducible refine (exact_need_ok _ _).mono ?_
  rintro e w1 ⟨rfl, rfl⟩
  go_wp2_with fail
  with_reducible refine HC.out.mono ?_
  rintro e w1 ⟨rfl, rfl⟩
  go_wp2_with fail
  with_reducible refine (exact_need_no _ _).mono ?_
  rintro e w1 ⟨rfl, rfl⟩
  generalize (w.alloc (.cells #[.bool false, .slice none 0 0] 42)).alloc (.cells #[.int .i64 0] 30) = w1 at *
  refine leaves_cons (f := 57) (args := #[.pointer (some ⟨w.heap.size + 1, 0, none⟩)]) (by simp) (by simp [go_sem]) ?_
  refine (exact_caught_panicking ⟨w.heap.size + 1, 0, none⟩ 0 1 [] _ (k1.out.cell (i := 0) rfl) (k1.out.free 0)).mono ?_
  rintro e u' w'' ⟨rfl, rfl, rfl⟩
  have e2 := (k1.out.set 0 (.int .i64 1)).cell (i := 0) (v := .int .i64 1) rfl
  have k2 := k0.out.other (p := ⟨w.heap.size + 1, 0, none⟩) (by dsimp only; omega) (.int .i64 1)
  have e0 := k2.cell (i := 0) (v := .bool false) rfl
  have e1 := k2.cell (i := 1) (v := .slice none 0 0) rfl
  have hxf : Ext w (w1.setCell ⟨w.heap.size + 1, 0, none⟩ (.int .i64 1)) := (by repeat (first | with_reducible exact Ext.refl _ | with_reducible assumption | with_reducible refine Ext.drewN ?_ _ | with_reducible refine Ext.drew ?_ | with_reducible refine Ext.alloc' ?_ _ | with_reducible refine Ext.set ?_ (by dsimp only; omega) _))
  simp [Leaves, settle, results, Try.results28, go_sem, e0, e1, e2]
  exact ⟨rfl, hxf⟩

set_option maxHeartbeats 1000000 in
theorem exact_Subsets_big (a : Option Addr) (cap : Nat) (k : Int) (l : List Int) (sum : Int) (w : World) (h : Ints w a cap l) (hn : l.length ≤ 64) (ho : l.any outB = false) (h0 : 0 ≤ k) (hk : (l.length : Int) < k) :
    Calls Try.prog 28 #[.slice a l.length cap, .int .i64 k, .int .i64 sum] w (SubE 1 w) := by
  have d1 : decide ((l.length : Int) ≤ 64) = true := by simp; omega
  have d2 : decide (0 ≤ k) = true := by simp; omega
  have d3 : decide (k ≤ (l.length : Int)) = false := by simp; omega
  have hx : Ext w ((w.alloc (.cells #[.bool false, .slice none 0 0] 42)).alloc (.cells #[.int .i64 0] 30)) := (by repeat (first | with_reducible exact Ext.refl _ | with_reducible assumption | with_reducible refine Ext.drewN ?_ _ | with_reducible refine Ext.drew ?_ | with_reducible refine Ext.alloc' ?_ _ | with_reducible refine Ext.set ?_ (by dsimp only; omega) _))
  have k0 := Lib.hid ((Blk.new0 w #[.bool false, .slice none 0 0] 42).alloc (.cells #[.int .i64 0] 30))
  have k1 := Lib.hid (Blk.new1 w (.cells #[.bool false, .slice none 0 0] 42) #[.int .i64 0] 30)
  have hC := exact_contains a cap l _ (h.ext hx)
  rw [ho] at hC
  have HC := Lib.hid hC
  clear hC h ho hk h0
  go_enter_defers Try.func28, Try.ntmps28
  go_wp2_with fail
  with_reducible refine (exact_need_ok _ _).mono ?_
  rintro e w1 ⟨rfl, rfl⟩
  go_wp2_with fail
  with_reducible refine HC.out.mono ?_
  rintro e w1 ⟨rfl, rfl⟩
  go_wp2_with fail
  with_reducible refine (exact_need_no _ _).mono ?_
  rintro e w1 ⟨rfl, rfl⟩
  generalize (w.alloc (.cells #[.bool false, .slice none 0 0] 42)).alloc (.cells #[.int .i64 0] 30) = w1 at *
  refine leaves_cons (f := 57) (args := #[.pointer (some ⟨w.heap.size + 1, 0, none⟩)]) (by simp) (by simp [go_sem]) ?_
  refine (exact_caught_panicking ⟨w.heap.size + 1, 0, none⟩ 0 1 [] _ (k1.out.cell (i := 0) rfl) (k1.out.free 0)).mono ?_
  rintro e u' w'' ⟨rfl, rfl, rfl⟩
  have e2 := (k1.out.set 0 (.int .i64 1)).cell (i := 0) (v := .int .i64 1) rfl
  have k2 := k0.out.other (p := ⟨w.heap.size + 1, 0, none⟩) (by dsimp only; omega) (.int .i64 1)
  have e0 := k2.cell (i := 0) (v := .bool false) rfl
  have e1 := k2.cell (i := 1) (v := .slice none 0 0) rfl
  have hxf : Ext w (w1.setCell ⟨w.heap.size + 1, 0, none⟩ (.int .i64 1)) := (by repeat (first | with_reducible exact Ext.refl _ | with_reducible assumption | with_reducible refine Ext.drewN ?_ _ | with_reducible refine Ext.drew ?_ | with_reducible refine Ext.alloc' ?_ _ | with_reducible refine Ext.set ?_ (by dsimp only; omega) _))
  simp [Leaves, settle, results, Try.results28, go_sem, e0, e1, e2]
  exact ⟨rfl, hxf⟩
end Go.Proofs.Ytmkleegfbapakaa
