import Derived.Test.YtmcbbhlglccmgaaQR1
namespace Go.Proofs.Ytmcbbhlglccmgaa
open Go.RowKit Go BigFrame
set_option maxRecDepth 100000
set_option linter.unusedSimpArgs false
set_option linter.unusedVariables false

/-! ref10: Make, cross, over, Cmp, Add, Sub, Mul, Quo, Floor. -/
theorem rMakeR (n d : Int) (w : World) (hn : -9223372036854775808 ≤ n ∧ n ≤ 9223372036854775807) (hd : -9223372036854775808 ≤ d ∧ d ≤ 9223372036854775807) (h0 : d ≠ 0) : Calls Try.prog 40 #[.int .i64 n, .int .i64 d] w (RatP (Rat.divInt n d) w) := by
  have LN : Hid (Len n) := Lib.hid (len_lt (n := 3) (by omega) (by omega))
  have HN := Lib.hid hn
  have LD : Hid (Len d) := Lib.hid (len_lt (n := 3) (by omega) (by omega))
  have HD := Lib.hid hd
  have H0 := Lib.hid h0
  clear hn hd h0
  obtain ⟨x1, hw, hx, Kr⟩ := boxQ1 w #[.bool false, .slice none 0 0, .bool false, .slice none 0 0] 35
  replace hw := Lib.hid hw
  go_enter Try.func40, Try.ntmps40
  go_upto_region 1 with fail
  try simp only [Nat.add_assoc, Nat.reduceAdd, Nat.add_zero]
  rw [hw.out]
  clear hw
  have hs0 := hx.size
  obtain ⟨cr0, cr1, cr2, cr3⟩ := bk4 Kr
  have hsz := hx.size
  go_wp2_with fail
  with_reducible refine (ref_Make n _ HN.out).mono ?_
  clear cr0 cr1 cr2 cr3
  rintro e x2 ⟨v, rfl, hv, hy⟩
  replace hx := hx.trans hy
  replace Kr := kE Kr hy
  clear hy
  obtain ⟨nn, an, qn, cn, rfl, hv', hf'⟩ := hv.two
  have Vn := Lib.hid hv'
  have Fn := Lib.hid (fun A hA => Nat.le_trans hsz (hf' A hA))
  clear hv' hf' hsz
  obtain ⟨cr0, cr1, cr2, cr3⟩ := bk4 Kr
  have hsz := hx.size
  go_wp2_with fail
  with_reducible refine (ref_Make d _ HD.out).mono ?_
  clear cr0 cr1 cr2 cr3
  rintro e x3 ⟨v, rfl, hv, hy⟩
  replace hx := hx.trans hy
  replace Kr := kE Kr hy
  replace Vn := Lib.hid (Vn.out.ext hy)
  clear hy
  obtain ⟨nd, ad, qd, cd, rfl, hv', hf'⟩ := hv.two
  have Vd := Lib.hid hv'
  have Fd := Lib.hid (fun A hA => Nat.le_trans hsz (hf' A hA))
  clear hv' hf' hsz
  obtain ⟨cr0, cr1, cr2, cr3⟩ := bk4 Kr
  have hsz := hx.size
  go_wp2_with fail
  with_reducible refine (rof_val Vn.out Vd.out LN.out LD.out H0.out).mono ?_
  clear cr0 cr1 cr2 cr3
  rintro e x4 ⟨v, rfl, hv, hy⟩
  replace hx := hx.trans hy
  replace Kr := kE Kr hy
  replace Vn := Lib.hid (Vn.out.ext hy)
  replace Vd := Lib.hid (Vd.out.ext hy)
  clear hy
  obtain ⟨nv, av, qv, cv, bv, kv, dv, rfl, hv', hf', hg'⟩ := hv
  have Vv := Lib.hid hv'
  have Fv := Lib.hid (fun A hA => Nat.le_trans hsz (hf' A hA))
  have Gv := Lib.hid (fun A hA => Nat.le_trans hsz (hg' A hA))
  clear hv' hf' hg' hsz
  clear Vn Vd
  obtain ⟨cr0, cr1, cr2, cr3⟩ := bk4 Kr
  obtain ⟨g0, z0, g1, z1, g2, z2, g3, z3⟩ := bp4 Kr (.bool nv) (.slice av qv cv) (.bool false) (.slice bv kv dv)
  go_wp2_with fail
  clear g0 z0 g1 z1 g2 z2 g3 z3
  clear cr0 cr1 cr2 cr3
  replace Vv := (by first | exact rv4 Vv Kr (.bool nv) (.slice av qv cv) (.bool false) (.slice bv kv dv) rfl rfl rfl rfl | exact bv4 Vv Kr (.bool nv) (.slice av qv cv) (.bool false) (.slice bv kv dv) rfl rfl rfl rfl)
  replace hx := bx4 hx (w.heap.size) (.bool nv) (.slice av qv cv) (.bool false) (.slice bv kv dv) (by omega)
  replace Kr := bs4 Kr (.bool nv) (.slice av qv cv) (.bool false) (.slice bv kv dv)
  generalize ((((x4).setCell ⟨w.heap.size, 0, none⟩ (.bool nv)).setCell ⟨w.heap.size, 1, none⟩ (.slice av qv cv)).setCell ⟨w.heap.size, 2, none⟩ (.bool false)).setCell ⟨w.heap.size, 3, none⟩ (.slice bv kv dv) = x5 at *
  obtain ⟨cr0, cr1, cr2, cr3⟩ := bk4 Kr
  refine bodyPost_ret (v := .tuple #[.agg #[.bool nv, .slice av qv cv, .bool false, .slice bv kv dv], .int .i64 0]) (by simp [results, Try.results40, go_sem, cr0, cr1, cr2, cr3]) rfl ?_
  exact ⟨_, rfl, ⟨_, _, _, _, _, _, _, rfl, Vv.out, Fv.out, Gv.out⟩, hx⟩
end Go.Proofs.Ytmcbbhlglccmgaa

namespace Go.Proofs.Ytmcbbhlglccmgaa
open Go.RowKit Go BigFrame
set_option maxRecDepth 100000
set_option linter.unusedSimpArgs false
set_option linter.unusedVariables false

/-! The reference's functions on arguments that are not valid. -/
end Go.Proofs.Ytmcbbhlglccmgaa

