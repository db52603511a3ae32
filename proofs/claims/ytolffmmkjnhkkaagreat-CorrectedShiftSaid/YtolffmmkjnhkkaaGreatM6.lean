import Derived.Test.YtolffmmkjnhkkaaGreatM5
import Derived.OwnWalk
import Derived.Deep.QuietTactic
namespace Go.Proofs.YtolffmmkjnhkkaaGreat
open Go.RowKit Go BigFrame Go.Shelf
set_option maxRecDepth 100000
set_option linter.unusedSimpArgs false
set_option linter.unusedVariables false

/-! Layer 40: corrected.caught, the deferred closures of corrected.rows. -/
theorem mcaught_panicking (b : Nat) (x e : Int) (older : List PanicEntry) (w : World) (hb : Blk w b #[.int .i64 x] 27) :
    CallsD Tryz.prog 51 #[.pointer (some ⟨b, 0, none⟩)] (.panicking ({ v := .iface 98 (.agg #[.int .i64 e]), recovered := false } :: older)) w fun r u' w' =>
      r = .returned (.tuple #[]) ∧ u' = .panicking ({ v := .iface 98 (.agg #[.int .i64 e]), recovered := true } :: older) ∧ ∃ w1, Ext w w1 ∧ w' = w1.setCell ⟨b, 0, none⟩ (.int .i64 e) := by
  have hta : ∀ (v : Value) (w : World), (Instr.typeAssert (.iface 98 v) 20 98 true).run Tryz.prog w = .ok (.tuple #[v, .bool true]) w := fun _ _ => by kernel_rfl
  have hb2 := hb.alloc (.cells #[.int .i64 e] 98)
  have hc := hb2.cell (i := 0) rfl
  have hz := hb2.free 0
  refine callsD_of_wpS Tryz.func51 rfl fun c₀ cs hu => ?_
  apply wpS_seq
  apply wpS_region
  simp [wpOpsS, go_sem, recoverD, hu, Tryz.ntmps51, Exit.thenS]
  apply wpS_seq
  apply wpS_region
  simp [wpOpsS, go_sem, Exit.thenS]
  refine wpS_cond (t := true) (by simp [Act.eval, Array.replicate]) ?_
  simp only [if_true]
  apply wpS_seq
  apply wpS_region
  simp [wpOpsS, go_sem, Exit.thenS, hta]
  apply wpS_seq
  apply wpS_seq
  apply wpS_region
  simp [wpOpsS, go_sem, Exit.thenS]
  refine wpS_cond (t := false) (by simp [Act.eval, Array.replicate]) ?_
  simp only [Bool.false_eq_true, if_false]
  refine wpS_of_wp (wp_skip ?_)
  simp only [Exit.thenS]
  apply wpS_region
  simp [wpOpsS, go_sem, hc, hz, bodyPostS, results, Tryz.results51]
  exact ⟨_, Ext.alloc _ _, rfl⟩

theorem mcaught_idle (p : Addr) (w : World) :
    CallsD Tryz.prog 51 #[.pointer (some p)] .returning w fun e u' w' => e = .returned (.tuple #[]) ∧ u' = .returning ∧ w' = w := by
  refine callsD_of_wpS Tryz.func51 rfl fun c₀ cs hu => ?_
  apply wpS_seq
  apply wpS_region
  simp [wpOpsS, go_sem, recoverD, hu, Tryz.ntmps51, Exit.thenS]
  apply wpS_seq
  apply wpS_region
  simp [wpOpsS, go_sem, Exit.thenS]
  refine wpS_cond (t := false) (by simp [Act.eval, Array.replicate]) ?_
  simp only [Bool.false_eq_true, if_false]
  refine wpS_of_wp (wp_skip ?_)
  cases c₀
  simp_all [bodyPostS, results, Tryz.results51]
theorem rows1_okR (pe pl : Nat) (w : World) (h : Blk w pe #[.int .i64 0] 27) :
    CallsD Tryz.prog 50 #[.pointer (some ⟨pe, 0, none⟩), .pointer (some ⟨pl, 0, none⟩)] .returning w fun e u' w' => u' = .returning ∧ e = .returned (.tuple #[]) ∧ w = w' := by
  have c0 := h.cell (i := 0) (v := .int .i64 0) rfl
  go_enter_d Tryz.func50, Tryz.ntmps50
  go_wp2_with fail
  go_end0
  exact ⟨rfl, rfl⟩
theorem rows1_errR (pe pl : Nat) (E : Int) (v : Value) (t : TypeId) (w : World) (h : Blk w pe #[.int .i64 E] 27) (hE : E ≠ 0) (hl : Blk w pl #[v] t) :
    CallsD Tryz.prog 50 #[.pointer (some ⟨pe, 0, none⟩), .pointer (some ⟨pl, 0, none⟩)] .returning w fun e u' w' => u' = .returning ∧ e = .returned (.tuple #[]) ∧ w' = w.setCell ⟨pl, 0, none⟩ (.slice none 0 0) := by
  have c0 := h.cell (i := 0) (v := .int .i64 E) rfl
  have t1 : (E != 0) = true := by simpa using hE
  have d0 := hl.cell (i := 0) (v := v) rfl
  have f0 := hl.free 0
  clear h hl hE
  go_enter_d Tryz.func50, Tryz.ntmps50
  go_wp2_with fail
  go_end0
  exact ⟨rfl, rfl⟩
theorem rows1_ok (pe pl : Nat) (w : World) (h : Blk w pe #[.int .i64 0] 27) :
    CallsD Tryz.prog 56 #[.pointer (some ⟨pe, 0, none⟩), .pointer (some ⟨pl, 0, none⟩)] .returning w fun e u' w' => u' = .returning ∧ e = .returned (.tuple #[]) ∧ w = w' := by
  have c0 := h.cell (i := 0) (v := .int .i64 0) rfl
  go_enter_d Tryz.func56, Tryz.ntmps56
  go_wp2_with fail
  go_end0
  exact ⟨rfl, rfl⟩
theorem rows1_err (pe pl : Nat) (E : Int) (v : Value) (t : TypeId) (w : World) (h : Blk w pe #[.int .i64 E] 27) (hE : E ≠ 0) (hl : Blk w pl #[v] t) :
    CallsD Tryz.prog 56 #[.pointer (some ⟨pe, 0, none⟩), .pointer (some ⟨pl, 0, none⟩)] .returning w fun e u' w' => u' = .returning ∧ e = .returned (.tuple #[]) ∧ w' = w.setCell ⟨pl, 0, none⟩ (.slice none 0 0) := by
  have c0 := h.cell (i := 0) (v := .int .i64 E) rfl
  have t1 : (E != 0) = true := by simpa using hE
  have d0 := hl.cell (i := 0) (v := v) rfl
  have f0 := hl.free 0
  clear h hl hE
  go_enter_d Tryz.func56, Tryz.ntmps56
  go_wp2_with fail
  go_end0
  exact ⟨rfl, rfl⟩
end Go.Proofs.YtolffmmkjnhkkaaGreat
