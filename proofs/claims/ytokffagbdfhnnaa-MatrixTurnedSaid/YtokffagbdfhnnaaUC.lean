import Derived.Test.YtokffagbdfhnnaaU6
import Derived.OwnWalk
import Derived.Deep.QuietTactic
namespace Go.Proofs.Ytokffagbdfhnnaa
open Go.RowKit Go BigFrame Go.Shelf
set_option maxRecDepth 100000
set_option linter.unusedSimpArgs false
set_option linter.unusedVariables false
attribute [local go_sem] Oper.semAt_some

/-! Layer 11: the law's helpers. -/
set_option maxHeartbeats 2000000 in
theorem law11_num (n d : Int) (w : World) (hn : -9223372036854775808 ≤ n ∧ n ≤ 9223372036854775807) (hd : -9223372036854775808 ≤ d ∧ d ≤ 9223372036854775807) (h0 : d ≠ 0) : Calls Try.prog 22 #[.int .i64 n, .int .i64 d] w (RatU (Rat.divInt n d) w) := by
  have HN := Lib.hid hn
  have HD := Lib.hid hd
  have H0 := Lib.hid h0
  clear hn hd h0
  obtain ⟨x1, hw, hx, Kr⟩ := boxQ1 w #[.bool false, .slice none 0 0, .bool false, .slice none 0 0] 38
  replace hw := Lib.hid hw
  go_enter Try.func22, Try.ntmps22
  go_upto_region 1 with fail
  try simp only [Nat.add_assoc, Nat.reduceAdd, Nat.add_zero]
  rw [hw.out]
  clear hw
  have hs0 := hx.size
  have hsz := hx.size
  go_wp2_with fail
  with_reducible refine (ratio_Make n d _ HN.out HD.out H0.out).mono ?_
  rintro e x2 ⟨v, rfl, hv, hy⟩
  replace hx := hx.trans hy
  replace Kr := kE Kr hy
  clear hy
  obtain ⟨nv, av, qv, cv, bv, kv, dv, rfl, hv', hf', hg'⟩ := hv
  have Vv := Lib.hid hv'
  have Fv := Lib.hid (fun A hA => Nat.le_trans hsz (hf' A hA))
  have Gv := Lib.hid (fun A hA => Nat.le_trans hsz (hg' A hA))
  clear hv' hf' hg' hsz
  go_upto_region 2 with fail
  have hl := Ext.alloc x2 (.cells #[.bool nv, .slice av qv cv, .bool false, .slice bv kv dv] 38)
  have lrx : w.heap.size < x2.heap.size := Kr.out.lt
  have hpx : w.heap.size ≤ x2.heap.size := hx.size
  replace hx := hx.trans hl
  replace Kr := kE Kr hl
  replace Vv := Lib.hid (Vv.out.ext hl)
  have Kx := Lib.hid (Blk.new0 x2 #[.bool nv, .slice av qv cv, .bool false, .slice bv kv dv] 38)
  clear hl
  generalize x2.alloc (.cells #[.bool nv, .slice av qv cv, .bool false, .slice bv kv dv] 38) = x3 at *
  generalize x2.heap.size = px at *
  obtain ⟨cx0, cx1, cx2, cx3⟩ := bk4 Kx
  obtain ⟨g0, z0, g1, z1, g2, z2, g3, z3⟩ := bp4 Kr (.bool nv) (.slice av qv cv) (.bool false) (.slice bv kv dv)
  go_wp2_with fail
  clear g0 z0 g1 z1 g2 z2 g3 z3
  clear cx0 cx1 cx2 cx3
  replace Vv := (by first | exact rv4 Vv Kr (.bool nv) (.slice av qv cv) (.bool false) (.slice bv kv dv) rfl rfl rfl rfl | exact bv4 Vv Kr (.bool nv) (.slice av qv cv) (.bool false) (.slice bv kv dv) rfl rfl rfl rfl)
  replace hx := bx4 hx (w.heap.size) (.bool nv) (.slice av qv cv) (.bool false) (.slice bv kv dv) (by omega)
  replace Kr := bs4 Kr (.bool nv) (.slice av qv cv) (.bool false) (.slice bv kv dv)
  replace Kx := bo4 Kx (w.heap.size) (.bool nv) (.slice av qv cv) (.bool false) (.slice bv kv dv) (by omega)
  generalize ((((x3).setCell ⟨w.heap.size, 0, none⟩ (.bool nv)).setCell ⟨w.heap.size, 1, none⟩ (.slice av qv cv)).setCell ⟨w.heap.size, 2, none⟩ (.bool false)).setCell ⟨w.heap.size, 3, none⟩ (.slice bv kv dv) = x4 at *
  obtain ⟨cr0, cr1, cr2, cr3⟩ := bk4 Kr
  refine bodyPost_ret (v := .agg #[.bool nv, .slice av qv cv, .bool false, .slice bv kv dv]) (by simp [results, Try.results22, go_sem, cr0, cr1, cr2, cr3]) rfl ?_
  exact ⟨_, rfl, ⟨_, _, _, _, _, _, _, rfl, Vv.out, Fv.out, Gv.out⟩, hx⟩
end Go.Proofs.Ytokffagbdfhnnaa
