import Derived.Test.YtpaaanbcadlhiaaDoorPDiv
import Derived.Test.YtpaaanbcadlhiaaDoorPMul
namespace Go.Proofs.YtpaaanbcadlhiaaDoor
open Go.RowKit Go BigFrame Go.Shelf
set_option maxRecDepth 100000
set_option linter.unusedSimpArgs false

/-! The deferred closure of nat.Div: behind an error both results are 0. -/
theorem nat_div1_okD (pe px py : Nat) (w : World) (h : Blk w pe #[.int .i64 0] 27) :
    CallsD Tryd.prog 46 #[.pointer (some ⟨pe, 0, none⟩), .pointer (some ⟨px, 0, none⟩), .pointer (some ⟨py, 0, none⟩)] .returning w fun e u' w' => u' = .returning ∧ e = .returned (.tuple #[]) ∧ w = w' := by
  have c0 := h.cell (i := 0) (v := .int .i64 0) rfl
  go_enter_d Tryd.func46, Tryd.ntmps46
  go_wp2_with fail
  go_end0
  exact ⟨rfl, rfl⟩
theorem nat_div1_errD (pe px py : Nat) (E : Int) (x0 x1 y0 y1 : Value) (w : World) (h : Blk w pe #[.int .i64 E] 27) (hE : E ≠ 0) (hx : Blk w px #[x0, x1] 24) (hy : Blk w py #[y0, y1] 24) (hxy : px ≠ py) :
    CallsD Tryd.prog 46 #[.pointer (some ⟨pe, 0, none⟩), .pointer (some ⟨px, 0, none⟩), .pointer (some ⟨py, 0, none⟩)] .returning w fun e u' w' => u' = .returning ∧ e = .returned (.tuple #[]) ∧ w' = (((w.setCell ⟨px, 0, none⟩ (.bool false)).setCell ⟨px, 1, none⟩ (.slice none 0 0)).setCell ⟨py, 0, none⟩ (.bool false)).setCell ⟨py, 1, none⟩ (.slice none 0 0) := by
  have c0 := h.cell (i := 0) (v := .int .i64 E) rfl
  have t1 : (E != 0) = true := by simpa using hE
  have d0 := hx.cell (i := 0) (v := x0) rfl
  have d1 := hx.cell (i := 1) (v := x1) rfl
  have e0 := hy.cell (i := 0) (v := y0) rfl
  have e1 := hy.cell (i := 1) (v := y1) rfl
  have f0 := hx.free 0
  have f1 := hx.free 1
  have f2 := hy.free 0
  have f3 := hy.free 1
  have g0 := (((hx.set 0 (.bool false)).set 1 (.slice none 0 0))).cell (i := 0) (v := .bool false) rfl
  have g1 : ((w.setCell ⟨px, 0, none⟩ (.bool false)).setCell ⟨px, 1, none⟩ (.slice none 0 0)).cell? ⟨py, 0, none⟩ = some y0 := ((hy.other (p := ⟨px, 0, none⟩) (fun e => hxy e.symm) _).other (p := ⟨px, 1, none⟩) (fun e => hxy e.symm) _).cell rfl
  have g2 : (((w.setCell ⟨px, 0, none⟩ (.bool false)).setCell ⟨px, 1, none⟩ (.slice none 0 0)).setCell ⟨py, 0, none⟩ (.bool false)).cell? ⟨py, 1, none⟩ = some y1 := (((hy.other (p := ⟨px, 0, none⟩) (fun e => hxy e.symm) _).other (p := ⟨px, 1, none⟩) (fun e => hxy e.symm) _).set 0 _).cell (i := 1) rfl
  clear h hx hy hE
  go_enter_d Tryd.func46, Tryd.ntmps46
  go_wp2_with fail
  go_end0
  exact ⟨rfl, rfl⟩
end Go.Proofs.YtpaaanbcadlhiaaDoor
